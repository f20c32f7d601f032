/- Contracts and laws on the way to the statement. No conditions. -/
import Derived.Test.YtklmjinbhnoppaaGreatXK1
import Derived.Test.YtklmjinbhnoppaaGreatFgGrow
import Derived.Test.YtklmjinbhnoppaaGreatFgHeap
import Derived.Shelf.SlMaps.Clone
import Derived.Sort.AssemblyPlain
import Derived.Sort.LotD5
import Derived.Sort.Walk13a
set_option maxRecDepth 100000
set_option maxHeartbeats 16000000
set_option linter.unusedVariables false
set_option linter.unusedSimpArgs false
set_option linter.unusedSectionVars false
namespace Go.Fg.X
open Go.Proofs Go.Fg
structure Ln where
 x:Nat
 y:Nat
 m:Nat
deriving DecidableEq
instance:Inhabited Ln:=⟨⟨0,0,0⟩⟩
structure Ln.Ok (l:Ln):Prop where
 x:l.x<18446744073709551616
 y:l.y<2 ^ 128
 m:l.m<18446744073709551616
@[go_sem] def Ln.cells (l:Ln):List D:=[u64 l.x,u64 (l.y / 18446744073709551616),u64 (l.y % 18446744073709551616),u64 l.m]
def X5 (l:Ln) (x:Nat):Nat:=if x≤l.x then l.y else (l.y+l.m*(x - l.x)) % 2 ^ 128
theorem o0 {a b:Nat} (ha:a<18446744073709551616) (hb:b<18446744073709551616):a*b<2 ^ 128:=by
 have:a*b≤18446744073709551615*18446744073709551615:=Nat.mul_le_mul (by omega) (by omega)
 exact Nat.lt_of_le_of_lt this (by decide)
theorem o4 {l:Ln} (h:l.Ok) (x:Nat):X5 l x<2 ^ 128:=by
 unfold X5
 split
 ·exact h.y
 ·exact Nat.mod_lt _ (by decide)
theorem o5 (l:Ln) (h:l.Ok) (x:Nat) (hx:x<18446744073709551616):Q7 Tryz.prog 265 [.agg l.cells,u64 x] (Qm (num (X5 l x))):=by
 unfold X5
 refine Zk 0 Qe 200 Tryz.func265 rfl Tryz.ntmps265 Tryz.results265 rfl fun base w hb=>?_
 simp only[go_sem,simprocAttr]
 by_cases h1:x≤l.x
 ·have d1:=decide_eq_true h1
  simp only[go_sem,simprocAttr,d1,if_pos h1]
 ·have d1:=decide_eq_false h1
  have e1:=LD x l.x (by omega) hx
  simp only[go_sem,simprocAttr,d1,if_neg h1]
  refine QA Qe hb 200 mixed [(0,true),(1,true),(2,true),(3,true),(4,true),(5,true),(6,true),(7,true),(8,false),(9,false),(10,true),(11,true),(12,true),(13,false),(14,false),(15,true)] (by kernel_rfl) (by kernel_rfl) ?_
  simp only[go_sem,simprocAttr,e1]
  refine Zo hb jE rfl ?_ (jR l.m (x - l.x) h.m (by omega)) (Qm.flat rfl) rfl fun d h hR=>?_
  ·simp only[go_sem,simprocAttr,e1]
  obtain ⟨rfl,rfl⟩:=hR
  refine QF hb ?_
  simp only[go_sem,simprocAttr,e1]
  refine Zo hb Fw rfl ?_ (Ga l.y (l.m*(x - l.x)) h.y (o0 h.m (by omega))) (Qm.flat rfl) rfl fun d h hR=>?_
  ·simp only[go_sem,simprocAttr]
  obtain ⟨rfl,rfl⟩:=hR
  refine QF hb ?_
  simp only[go_sem,simprocAttr]
def jS (l:Ln) (w:Nat):Nat:=
 if w≤l.y then 0
 else if l.m=0∨18446744073709551616≤cdiv (w - l.y) l.m∨never≤l.x∨never - l.x≤cdiv (w - l.y) l.m then never
 else l.x+cdiv (w - l.y) l.m
theorem o6 (l:Ln) (w:Nat):jS l w≤never:=by
 unfold jS;split <;> try split
 ·exact Nat.zero_le _
 ·exact Nat.le_refl _
 ·omega
theorem Qlm (n:Nat) (hn:n<2 ^ 128):Q7 Tryz.prog 211 [num n,u64 0] (Qm (.tup [u64 0,Qb 1])):=by
 refine Zk 0 Qe 200 Tryz.func211 rfl Tryz.ntmps211 Tryz.results211 rfl fun base w hb=>?_
 simp only[go_sem,simprocAttr]
 refine QM hb mJ rfl ?_ (oW n 0 hn (by decide)) (Qm.flat rfl) rfl fun d h hR=>?_
 ·simp only[go_sem,simprocAttr,if_true]
 obtain ⟨rfl,rfl⟩:=hR
 refine Qc hb ?_
 simp only[go_sem,simprocAttr,if_true]
theorem o7 {a b:Nat}:((if a<b then (-1:Int) else if a=b then 0 else 1)≤0)↔a≤b:=by
 split
 ·omega
 ·split <;> omega
theorem Qln {a b:Nat}:((if a<b then (-1:Int) else if a=b then 0 else 1)<0)↔a<b:=by
 split
 ·omega
 ·split <;> omega
theorem o8 {a b:Nat} (ha:a<2 ^ 128) (h:b≤a):(a+2 ^ 128 - b) % 2 ^ 128=a - b:=by
 rw[show a+2 ^ 128 - b=a - b+2 ^ 128 by omega,Nat.add_mod_right,Nat.mod_eq_of_lt (by omega)]
theorem L0 (l:Ln) (h:l.Ok) (v:Nat) (hv:v<2 ^ 128):Q7 Tryz.prog 171 [.agg l.cells,num v] (Qm (u64 (jS l v))):=by
 unfold jS
 refine Zk 0 Qe 200 Tryz.func171 rfl Tryz.ntmps171 Tryz.results171 rfl fun base w hb=>?_
 simp only[go_sem,simprocAttr]
 refine QM hb Pb rfl ?_ (Rq v l.y hv h.y) (Qm.flat rfl) rfl fun d h hR=>?_
 ·simp only[go_sem,simprocAttr]
 obtain ⟨rfl,rfl⟩:=hR
 refine Qc hb ?_
 simp only[go_sem,simprocAttr]
 by_cases h1:v≤l.y
 ·have d1:=decide_eq_true (o7.2 h1)
  simp only[go_sem,simprocAttr,d1,if_pos h1]
 ·have d1:=decide_eq_false (fun h2=>h1 (o7.1 h2))
  rw[if_neg h1]
  simp only[go_sem,simprocAttr,d1]
  refine QM hb QiA rfl ?_ (Qla v l.y hv h.y) (Qm.flat rfl) rfl fun d h hR=>?_
  ·simp only[go_sem,simprocAttr,o8 hv (show l.y≤v by omega)]
  obtain ⟨rfl,rfl⟩:=hR
  refine Qc hb ?_
  simp only[go_sem,simprocAttr,o8 hv (show l.y≤v by omega)]
  by_cases h2:l.m=0
  ·rw[if_pos (.inl h2)]
   refine QM hb mD rfl ?_ (Qlm (v - l.y) (by omega)) (Qm.flat rfl) rfl fun d h hR=>?_
   ·simp only[go_sem,simprocAttr,h2]
   obtain ⟨rfl,rfl⟩:=hR
   refine Qc hb ?_
   simp only[go_sem,simprocAttr,h2]
   rfl
  ·refine QM hb mD rfl ?_ (Qli (v - l.y) l.m (by omega) h.m (by omega)) (Qm.flat rfl) rfl fun d h hR=>?_
   ·simp only[go_sem,simprocAttr]
   obtain ⟨rfl,rfl⟩:=hR
   refine Qc hb ?_
   simp only[go_sem,simprocAttr]
   by_cases h3:cdiv (v - l.y) l.m<18446744073709551616
   ·have e1:Dl (cdiv (v - l.y) l.m)=0:=if_pos h3
    have e2:Gc (cdiv (v - l.y) l.m)=cdiv (v - l.y) l.m:=if_pos h3
    by_cases h4:never≤l.x
    ·have d4:decide ((9223372036854775808:Int)≤(l.x:Int))=true:=decide_eq_true (by unfold never at h4;omega)
     rw[if_pos (.inr (.inr (.inl h4)))]
     simp only[go_sem,simprocAttr,e1,e2,d4]
     rfl
    ·have d4:decide ((9223372036854775808:Int)≤(l.x:Int))=false:=decide_eq_false (by unfold never at h4;omega)
     have e5:IntKind.u64.wrap ((9223372036854775808:Int) - (l.x:Int))=((never - l.x:Nat):Int):=by
      have:=LD 9223372036854775808 l.x (by unfold never at h4;omega) (by decide)
      exact this
     by_cases h5:never - l.x≤cdiv (v - l.y) l.m
     ·have d5:=decide_eq_true h5
      rw[if_pos (.inr (.inr (.inr h5)))]
      simp only[go_sem,simprocAttr,e1,e2,d4,e5,d5]
      rfl
     ·have d5:=decide_eq_false h5
      have e6:=nC l.x (cdiv (v - l.y) l.m) (by unfold never at h5;omega)
      rw[if_neg (by rintro (h6 | h6 | h6 | h6);exact h2 h6;omega;exact h4 h6;exact h5 h6)]
      simp only[go_sem,simprocAttr,e1,e2,d4,e5,d5,e6]
   ·have e1:Dl (cdiv (v - l.y) l.m)=20:=if_neg h3
    rw[if_pos (.inr (.inl (by omega)))]
    simp only[go_sem,simprocAttr,e1]
    rfl
def wU (a b:Ln):Ln:=if X5 b (max a.x b.x)<X5 a (max a.x b.x) then b else a
theorem o9 {a b:Ln} (ha:a.Ok) (hb:b.Ok):(wU a b).Ok:=by unfold wU;split <;> assumption
theorem yH (a b:Nat):(max (a:Int) (b:Int))=((max a b:Nat):Int):=by omega
theorem pb (a b:Ln) (ha:a.Ok) (ZZ:b.Ok):Q7 Tryz.prog 217 [.agg a.cells,.agg b.cells] (Qm (.agg (wU a b).cells)):=by
 have hx:max a.x b.x<18446744073709551616:=by have:=ha.x;have:=ZZ.x;omega
 unfold wU
 obtain ⟨k,hk⟩:∃ k,k=(if X5 b (max a.x b.x)<X5 a (max a.x b.x) then (-1:Int) else if X5 b (max a.x b.x)=X5 a (max a.x b.x) then 0 else 1):=⟨_,rfl⟩
 have vW:k<0↔X5 b (max a.x b.x)<X5 a (max a.x b.x):=by rw[hk];exact Qln
 refine Zk 0 Qe 200 Tryz.func217 rfl Tryz.ntmps217 Tryz.results217 rfl fun base w hb=>?_
 simp only[go_sem,simprocAttr]
 simp only[go_sem,simprocAttr,yH]
 refine QA Qe hb 200 mixed [(0,true),(1,true),(3,true),(4,true),(2,false),(5,false),(6,false),(7,true)] (by kernel_rfl) (by kernel_rfl) ?_
 simp only[go_sem,simprocAttr,yH]
 refine Zo hb mN rfl ?_ (o5 b ZZ (max a.x b.x) hx) (Qm.flat rfl) rfl fun d h hR=>?_
 ·simp only[go_sem,simprocAttr,yH]
 obtain ⟨rfl,rfl⟩:=hR
 refine QF hb ?_
 simp only[go_sem,simprocAttr,yH]
 refine Zo hb mN rfl ?_ (o5 a ha (max a.x b.x) hx) (Qm.flat rfl) rfl fun d h hR=>?_
 ·simp only[go_sem,simprocAttr,yH]
 obtain ⟨rfl,rfl⟩:=hR
 refine QF hb ?_
 simp only[go_sem,simprocAttr,yH]
 refine Zo hb Pb rfl ?_ (hk▸Rq (X5 b (max a.x b.x)) (X5 a (max a.x b.x)) (o4 ZZ _) (o4 ha _)) (Qm.flat rfl) rfl fun d h hR=>?_
 ·simp only[go_sem,simprocAttr,yH]
 obtain ⟨rfl,rfl⟩:=hR
 refine QF hb ?_
 simp only[go_sem,simprocAttr,yH]
 by_cases h1:X5 b (max a.x b.x)<X5 a (max a.x b.x)
 ·have d1:=decide_eq_true (vW.2 h1)
  simp only[go_sem,simprocAttr,d1,if_pos h1]
 ·have d1:=decide_eq_false (fun h2=>h1 (vW.1 h2))
  rw[if_neg h1]
  simp only[go_sem,simprocAttr,d1]
structure Rn where
 f:Ln
 t:Ln
 b:Bool
deriving DecidableEq
instance:Inhabited Rn:=⟨⟨default,default,false⟩⟩
structure Rn.Ok (r:Rn):Prop where
 f:r.f.Ok
 t:r.t.Ok
@[go_sem] def Rn.cells (r:Rn):List D:=[u64 r.f.x,u64 (r.f.y / 18446744073709551616),u64 (r.f.y % 18446744073709551616),u64 r.f.m,u64 r.t.x,u64 (r.t.y / 18446744073709551616),u64 (r.t.y % 18446744073709551616),u64 r.t.m,QN r.b]
theorem Qlo (n:Nat) (h:n<18446744073709551616):IntKind.u64.wrap (n:Int)=(n:Int):=by rw[IntKind.wrap_u64];omega
@[go_sem] def cfg (t l:Int):D:=.agg [.raw (.int .i64 t),.raw (.int .i64 l)]
theorem Qlp (n t:Nat) (hn:n<2 ^ 128) (ht:t≤65536) (YT:n*t<2 ^ 128):Q7 Tryz.prog 272 [num n,Qb t] (Qm (num (n*t))):=by
 obtain ⟨hi,lo,Zp,rfl⟩:∃ hi lo,lo<18446744073709551616∧n=hi*18446744073709551616+lo:=⟨n / 18446744073709551616,n % 18446744073709551616,Nat.mod_lt _ (by decide),by omega⟩
 have hh:hi<18446744073709551616:=by omega
 have e1:(hi*18446744073709551616+lo) / 18446744073709551616=hi:=by omega
 have e2:(hi*18446744073709551616+lo) % 18446744073709551616=lo:=by omega
 obtain ⟨A,hA⟩:∃ A,A=lo*t:=⟨_,rfl⟩
 obtain ⟨B,hB⟩:∃ B,B=hi*t:=⟨_,rfl⟩
 have e3:(hi*18446744073709551616+lo)*t=B*18446744073709551616+A:=by rw[hA,hB,Nat.add_mul,Nat.mul_assoc,Nat.mul_comm 18446744073709551616 t,← Nat.mul_assoc]
 rw[e3] at YT
 rw[e3]
 have hm:=jR lo t Zp (by omega)
 rw[← hA] at hm
 have w1:=Qlo t (by omega)
 have w2:=QjQ hi t (by rw[← hB];omega)
 rw[← hB] at w2
 have w3:=nC (A / 18446744073709551616) B (by omega)
 have r1:(B*18446744073709551616+A) / 18446744073709551616=A / 18446744073709551616+B:=by rw[Nat.add_comm,Nat.add_mul_div_right _ _ (by decide)]
 have r2:(B*18446744073709551616+A) % 18446744073709551616=A % 18446744073709551616:=by rw[Nat.add_comm,Nat.add_mul_mod_self_right]
 refine Zk 0 Qe 200 Tryz.func272 rfl Tryz.ntmps272 Tryz.results272 rfl fun base w hb=>?_
 simp only[go_sem,simprocAttr]
 simp only[e1,e2,w1,go_sem,simprocAttr]
 refine QM hb jE rfl ?_ hm (Qm.flat rfl) rfl fun d h hR=>?_
 ·simp only[go_sem,simprocAttr,w1,w2,w3]
 obtain ⟨rfl,rfl⟩:=hR
 refine Qc hb ?_
 simp only[go_sem,simprocAttr,w1,w2,w3]
 simp only[e1,e2,w1,w2,w3,go_sem,simprocAttr,r1,r2]
theorem pc (n t k:Nat) (hn:n<2 ^ 111) (ht:t≤65536) (hk:k<18446744073709551616):Q7 Tryz.prog 229 [num n,Qb t,u64 k] (Qm (QN (decide (65536*k<n*t)))):=by
 have h1:n*t≤n*65536:=Nat.mul_le_mul_left n ht
 have hc:=Rq (n*t) (65536*k) (by omega) (by omega)
 have e:decide ((if n*t<65536*k then (-1:Int) else if n*t=65536*k then 0 else 1) > 0)=decide (65536*k<n*t):=by
  rw[Bool.eq_iff_iff];simp only[decide_eq_true_eq];(repeat' split) <;> omega
 have hm:=jR 65536 k (by decide) hk
 refine Zk 0 Qe 200 Tryz.func229 rfl Tryz.ntmps229 Tryz.results229 rfl fun base w hb=>?_
 simp only[go_sem,simprocAttr]
 refine QM hb QiP rfl ?_ (Qlp n t (by omega) ht (by omega)) (Qm.flat rfl) rfl fun d h hR=>?_
 ·simp only[go_sem,simprocAttr]
 obtain ⟨rfl,rfl⟩:=hR
 refine Qc hb ?_
 simp only[go_sem,simprocAttr]
 refine QM hb jE rfl ?_ hm (Qm.flat rfl) rfl fun d h hR=>?_
 ·simp only[go_sem,simprocAttr,oX]
 obtain ⟨rfl,rfl⟩:=hR
 refine Qc hb ?_
 simp only[go_sem,simprocAttr,oX]
 refine QM hb Pb rfl ?_ hc (Qm.flat rfl) rfl fun d h hR=>?_
 ·simp only[go_sem,simprocAttr,e]
 obtain ⟨rfl,rfl⟩:=hR
 refine Qc hb ?_
 simp only[go_sem,simprocAttr,e]
@[go_sem] def kls (l:List Qi):D:=.imm 14 l.length (Qi.rows l)
theorem Qlq (h:List Ob):QG Tryz.prog 44 h [] (fun d h'=>d=.ptr (h.length+1) 0 0 0∧h'=h++[QE .i64 0 [],⟨.one,0,1,1,fun _=>[.mref h.length 0]⟩]):=by
 refine QW Qe 200 Tryz.func44 rfl Tryz.ntmps44 Tryz.results44 rfl fun base w pl hb=>?_
 simp only[go_sem,simprocAttr,Qa]
structure X6 {α:Type} [Inhabited α] (enc:α→List D) (L:List α) (off:Nat) (row:Nat→List D):Prop where
 at_:∀ i,i<L.length→row (off+i)=enc (L.getD i default)
 all:∀ i,i<off+L.length→∃ a,row i=enc a
def pe {α:Type} [Inhabited α] (sz:Nat) (enc:α→List D) (L:List α) (d:D) (h:List Ob):Prop:=∃ g off row,d=.ref 0 g off L.length∧h=[⟨.arr,g,sz,off+L.length,row⟩]∧X6 enc L off row
theorem pe.flat {α:Type} [Inhabited α] {sz:Nat} {enc:α→List D} {L:List α} (hf:∀ a,ju (enc a)=true):∀ d h,pe sz enc L d h→d.flat=true∧∀ o∈h,o.flat:=by
 rintro d h ⟨g,off,row,rfl,rfl,hr⟩
 refine ⟨rfl,fun o ho i hi=>?_⟩
 simp at ho;subst ho
 obtain ⟨a,ha⟩:=hr.all i hi
 show ju (row i)=true
 rw[ha];exact hf a
theorem X6.nil {α:Type} [Inhabited α] {enc:α→List D} {row:Nat→List D}:X6 enc [] 0 row:=⟨fun i hi=>absurd hi (Nat.not_lt_zero i),fun i hi=>absurd hi (Nat.not_lt_zero i)⟩
theorem X6.app {α:Type} [Inhabited α] {enc:α→List D} {L:List α} {off:Nat} {row:Nat→List D} (h:X6 enc L off row) (x:α) {r2:Nat→List D} (h2:r2 0=enc x):X6 enc (L++[x]) 0 (JJ L.length off row r2):=by
 have key:∀ i,i<L.length+1→JJ L.length off row r2 i=enc ((L++[x]).getD i default):=fun i hi=>by
  by_cases FE:i<L.length
  ·rw[Ae FE,h.at_ i FE];simp [FE,List.getElem?_append_left FE]
  ·have:i=L.length:=by omega
   subst this
   rw[xM (Nat.le_refl _),Nat.sub_self,h2];simp
 exact ⟨fun i hi=>by simp at hi;rw[Nat.zero_add];exact key i hi,fun i hi=>by simp at hi;exact ⟨_,key i hi⟩⟩
theorem X6.tail {α:Type} [Inhabited α] {enc:α→List D} {L:List α} {off:Nat} {row:Nat→List D} (h:X6 enc L off row) (QD:0<L.length):X6 enc L.tail (off+1) row:=by
 refine ⟨fun i hi=>?_,fun i hi=>h.all i (by simp at hi;omega)⟩
 simp at hi
 rw[show off+1+i=off+(i+1) by omega,h.at_ (i+1) (by omega)]
 cases L with
 | nil=>simp at hi
 | cons a r=>simp
theorem X6.upto {α:Type} [Inhabited α] {enc:α→List D} {L:List α} {off:Nat} {row:Nat→List D} (h:X6 enc L off row) {k:Nat} (hu:∀ a,qB k (enc a)=true):∀ i,i<off+L.length→qB k (row i)=true:=fun i hi=>by
 obtain ⟨a,ha⟩:=h.all i hi
 rw[ha];exact hu a
end Go.Fg.X
namespace Go.Fg.X
open Go.Proofs Go.Fg
end Go.Fg.X
namespace Go.Fg.X
open Go.Proofs Go.Fg
end Go.Fg.X
namespace Go.Fg.X
open Go.Proofs Go.Fg
end Go.Fg.X
namespace Go.Fg.X
open Go.Proofs Go.Fg
structure Nc where
 a:Nat
 d:Nat
 b:Nat
instance:Inhabited Nc:=⟨⟨0,0,0⟩⟩
@[go_sem] def Nc.cells (c:Nc):List D:=[u64 c.a,u64 c.d,u64 c.b]
def Nc.rows (l:List Nc):Nat→List D:=fun i=>(l.getD i default).cells
@[go_sem] theorem Nc.kS (l:List Nc) (i:Nat):Nc.rows l i=(l.getD i default).cells:=rfl
@[go_sem] def Vi (l:List Nc):D:=.imm 3 l.length (Nc.rows l)
@[go_sem] def vj (c:Nc):D:=.agg c.cells
def Nc.of (c:Nc):Int:=JR c.a c.d c.b
def Nc.Lt (c:Nc):Prop:=c.a<18446744073709551616∧c.d<18446744073709551616∧c.b<18446744073709551616
def pf (F:List Ob) (f nf:Nat) (QB:List D) (g:Nc→Nat):Prop:=∀ (h:List Ob) (c:Nc),c.Lt→JY F h→QQ Tryz.prog f h (Z6 nf QB [vj c]) (fun d=>d=num (g c))
def qQ (g:Nc→Nat) (s:Nat) (c:Nc):Nat:=if c.of=0 then s else s+g c
def vk (g:Nc→Nat) (l:List Nc):Nat:=l.foldl (qQ g) 0
theorem L6 {g:Nc→Nat} {M:Nat} (hg:∀ c:Nc,c.Lt→g c≤M):∀ {l:List Nc} {s:Nat},(∀ c∈l,c.Lt)→l.foldl (qQ g) s≤s+l.length*M
 | [],s,_=>by simp
 | c::l,s,h=>by
  have h1:=hg c (h c (by simp))
  have h2:=L6 hg (l:=l) (s:=qQ g s c) fun x hx=>h x (by simp [hx])
  have h3:qQ g s c≤s+M:=by unfold qQ;split <;> omega
  simp only[List.foldl_cons,List.length_cons,Nat.add_mul,Nat.one_mul]
  omega
def Bf (n:Nat):Ob:=⟨.one,0,2,1,fun _=>[u64 (n / 18446744073709551616),u64 (n % 18446744073709551616)]⟩
structure OvI (l:List Nc) (so:D) (g:Nc→Nat) (F:List Ob) (i:Nat) (s:St):Prop where
 ex:∃ G:List Ob,s=⟨[(1,so),(4,.ptr F.length 0 0 0),(5,.ptr (F.length+1) 0 0 0),(8,Vi l),(9,Qb l.length),(10,Qb i)],F++(Bf 0::Bf ((l.take i).foldl (qQ g) 0)::G)⟩
theorem pg (h:List Ob) (l:List Nc) (hl:l.length<1048576) (hc:∀ c∈l,c.Lt) (so:D) (f nf:Nat) (QB:List D) (hf:Qo Tryz.prog f) (JP:J6 so=some (f,nf,QB)) (g:Nc→Nat) (ph:∀ c:Nc,c.Lt→g c≤2 ^ 97)
  (hg:pf (h.map Ob.ro) f nf QB g):QQ Tryz.prog 273 h [Vi l,so] (fun d=>d=num (vk g l)):=by
 refine Zh Qe 200 Tryz.func273 rfl Tryz.ntmps273 Tryz.results273 rfl fun base w pl F hF QR hb=>?_
 simp only[go_sem,simprocAttr,Qa]
 refine ZB (OvI l so g F) l.length (s0:=⟨[(1,so),(4,.ptr F.length 0 0 0),(5,.ptr (F.length+1) 0 0 0),(8,Vi l),(9,Qb l.length),(10,Qb 0)],F++[Bf 0,Bf 0]⟩) (Ql.frame (by simp only[go_sem,simprocAttr])) ⟨[],rfl⟩ ?_
 rintro i s hi ⟨G,rfl⟩
 have Zl:=KG (show i<4611686018427387904 by omega)
 obtain ⟨S,hS⟩:∃ S,S=(l.take i).foldl (qQ g) 0:=⟨_,rfl⟩
 have Ps:S≤2 ^ 117:=by
  have h1:=L6 ph (l:=l.take i) (s:=0) fun x hx=>hc x (List.mem_of_mem_take hx)
  have h2:(l.take i).length≤1048576:=by simp;omega
  have h3:=Nat.mul_le_mul_right (2 ^ 97) h2
  rw[hS];omega
 rw[← hS]
 refine Qc hb ?_
 simp only[go_sem,simprocAttr,Qa]
 first | refine kI hi (fun Qq=>?_) (fun Qq=>?_) | refine kJ hi (fun Qq=>?_) (fun Qq=>?_)
 ·obtain ⟨c,J8⟩:∃ c,c=l.getD i default:=⟨_,rfl⟩
  have ZY:c.Lt:=hc c (by rw[J8,List.getD_eq_getElem?_getD,List.getElem?_eq_getElem Qq];exact List.getElem_mem Qq)
  have ZH:(l.take (i+1)).foldl (qQ g) 0=qQ g S c:=by
   rw[List.take_add_one,List.getElem?_eq_getElem Qq,Option.toList_some,List.foldl_append,hS,J8,List.getD_eq_getElem?_getD,List.getElem?_eq_getElem Qq];rfl
  simp only[go_sem,simprocAttr,Qa,Qq,← J8]
  refine QM hb CD rfl ?_ (RC c.a c.d c.b) (Qm.flat rfl) rfl fun d h hR=>?_
  ·simp only[go_sem,simprocAttr,Qa]
  obtain ⟨rfl,rfl⟩:=hR
  refine Qc hb ?_
  simp only[go_sem,simprocAttr,Qa]
  by_cases h0:c.of=0
  ·have Ez:JR c.a c.d c.b=0:=h0
   have Jf:qQ g S c=S:=by rw[qQ,if_pos h0]
   simp only[go_sem,simprocAttr,Qa,Xo Ez,bne]
   refine ⟨Qq,_,Ql.frame (fr':=[(1,so),(4,.ptr F.length 0 0 0),(5,.ptr (F.length+1) 0 0 0),(8,Vi l),(9,Qb l.length),(10,Qb (i+1:Nat))]) (by simp only[go_sem,simprocAttr,Zl]),⟨_,by rw[ZH,Jf]⟩⟩
  ·have Ez:JR c.a c.d c.b≠0:=h0
   have Jf:qQ g S c=S+g c:=by rw[qQ,if_neg h0]
   have hgc:=ph c ZY
   simp only[go_sem,simprocAttr,Qa,Vq Ez,bne]
   have pk:=Ga S (g c) (by omega) (by omega)
   rw[Nat.mod_eq_of_lt (by omega:S+g c<2 ^ 128)] at pk
   refine QA Qe hb 200 mixed [(0,true),(1,true),(2,true),(3,false),(4,false),(5,true),(6,true),(7,true),(8,false)] (by kernel_rfl) (by kernel_rfl) ?_
   simp only[go_sem,simprocAttr,Qa,Bf]
   refine Ju hb hf JP ?_ (hg _ c ZY (by rw[← hF];exact ⟨_,rfl⟩)) rfl fun d2 hR=>?_
   ·simp only[go_sem,simprocAttr]
    exact kW _
   subst hR
   refine QF hb ?_
   simp only[go_sem,simprocAttr,Qa]
   refine Zo hb Fw rfl ?_ pk (Qm.flat rfl) rfl fun d h hR=>?_
   ·simp only[go_sem,simprocAttr,Qa]
   obtain ⟨rfl,rfl⟩:=hR
   refine QF hb ?_
   simp only[go_sem,simprocAttr,Qa]
   refine ⟨Qq,_,Ql.frame (fr':=[(1,so),(4,.ptr F.length 0 0 0),(5,.ptr (F.length+1) 0 0 0),(8,Vi l),(9,Qb l.length),(10,Qb (i+1:Nat))]) (by simp only[go_sem,simprocAttr,Zl]),⟨G++[⟨.one,0,3,1,fun _=>c.cells⟩],?_⟩⟩
   rw[ZH,Jf]
   rfl
 ·subst Qq
  rw[List.take_length] at hS
  have e:vk g l=S:=hS.symm
  rw[e]
  refine Qc hb ?_
  simp only[go_sem,simprocAttr,Qa,Bf]
  exact ⟨_,rfl⟩
theorem Qls (h:List Ob) (c:Nc) (hc:c.Lt):QQ Tryz.prog 276 h [vj c] (fun d=>d=num c.b):=by
 refine Zh Qe 200 Tryz.func276 rfl Tryz.ntmps276 Tryz.results276 rfl fun base w pl F hF QR hb=>?_
 simp only[go_sem,simprocAttr,Qa]
 refine QM hb mK rfl ?_ (oU c.b hc.2.2) (Qm.flat rfl) rfl fun d h hR=>?_
 ·simp only[go_sem,simprocAttr,Qa]
 obtain ⟨rfl,rfl⟩:=hR
 refine Qc hb ?_
 simp only[go_sem,simprocAttr,Qa]
 exact ⟨_,rfl⟩
theorem Qlt (l:List Nc) (hl:l.length<1048576) (hc:∀ c∈l,c.Lt):Q7 Tryz.prog 231 [Vi l] (Qm (num (vk (fun c=>c.b) l))):=by
 refine Zk 0 Qe 200 Tryz.func231 rfl Tryz.ntmps231 Tryz.results231 rfl fun base w hb=>?_
 simp only[go_sem,simprocAttr]
 refine QL hb mQ rfl ?_ (pg _ l hl hc (.raw (.func (.func 276) ⟨[]⟩ ⟨[]⟩)) 276 0 [] QiS rfl (fun c=>c.b) (fun c h=>by have:=h.2.2;omega) (fun h' c hc _=>Qls h' c hc)) rfl fun d2 hR=>?_
 ·simp only[go_sem,simprocAttr]
 subst hR
 refine Qc hb ?_
 simp only[go_sem,simprocAttr]
theorem Qlu (h:List Ob) (b1 t:Nat) (ht:t<18446744073709551616) (c:Nc) (h1:(h.map Ob.ro)[b1]? = some ⟨.Ku,0,1,1,fun _=>[u64 t]⟩):QQ Tryz.prog 274 h [vj c,.ptr b1 0 0 0] (fun d=>d=num (qh c.a c.d c.b t)):=by
 refine Zh Qe 200 Tryz.func274 rfl Tryz.ntmps274 Tryz.results274 rfl fun base w pl F hF QR hb=>?_
 rw[← hF] at h1
 have Qx:=Qd h1
 simp only[go_sem,simprocAttr,Qa,h1,Qx]
 refine QM hb QiR rfl ?_ (Qll c.a c.d c.b t ht) (Qm.flat rfl) rfl fun d h hR=>?_
 ·simp only[go_sem,simprocAttr,Qa,h1,Qx]
 obtain ⟨rfl,rfl⟩:=hR
 refine Qc hb ?_
 simp only[go_sem,simprocAttr,Qa,h1,Qx]
 exact ⟨_,rfl⟩
theorem Qlv (l:List Nc) (t:Nat) (ht:t<18446744073709551616) (hl:l.length<1048576) (hc:∀ c∈l,c.Lt):Q7 Tryz.prog 230 [Vi l,u64 t] (Qm (num (vk (fun c=>qh c.a c.d c.b t) l))):=by
 have hM:∀ c:Nc,c.Lt→qh c.a c.d c.b t≤2 ^ 97:=fun c _=>by have:=Qlk c.a c.d c.b t ht;omega
 refine Zk 0 Qe 200 Tryz.func230 rfl Tryz.ntmps230 Tryz.results230 rfl fun base w hb=>?_
 simp only[go_sem,simprocAttr]
 have hT:pf (([⟨.one,0,1,1,fun _=>[u64 t]⟩,Bf 0]:List Ob).map Ob.ro) 274 0 [.ptr 0 0 0 0] (fun c=>qh c.a c.d c.b t):=fun h' c hc hx=>by
  obtain ⟨g,rfl⟩:=hx
  exact Qlu _ 0 t ht c rfl
 refine QL hb mQ rfl ?_ (pg _ l hl hc (.clo 274 0 [.ptr 0 0 0 0]) 274 0 [.ptr 0 0 0 0] QiQ rfl (fun c=>qh c.a c.d c.b t) hM hT) rfl fun d2 hR=>?_
 ·simp only[go_sem,simprocAttr]
 subst hR
 refine Qc hb ?_
 simp only[go_sem,simprocAttr]
@[go_sem] theorem Ln.Qto (l:Ln):l.cells=[u64 l.x,u64 (l.y / 18446744073709551616),u64 (l.y % 18446744073709551616),u64 l.m]:=rfl
def qi (c:Nc) (x y:Nat):Rn:=
 if c.of=2∨c.of=4 then ⟨⟨0,0,0⟩,⟨x,y,c.b⟩,false⟩
 else if c.of=3 then ⟨⟨x,y,c.a⟩,⟨x,(y+(c.a - c.b)*c.d) % 2 ^ 128,c.b⟩,true⟩
 else ⟨⟨0,0,0⟩,⟨x,y,0⟩,false⟩
def J9 (c:Nc) (x y:Nat):Rn:=
 if c.of=4 then ⟨⟨0,0,0⟩,⟨(x+c.d) % 18446744073709551616,y,c.b⟩,false⟩ else qi c x y
theorem Ln.X7:(⟨0,0,0⟩:Ln).Ok:=⟨by decide,by decide,by decide⟩
theorem L7 {c:Nc} (hc:c.Lt) {x y:Nat} (hx:x<18446744073709551616) (hy:y<2 ^ 128):(qi c x y).Ok:=by
 unfold qi
 split
 ·exact ⟨Ln.X7,hx,hy,hc.2.2⟩
 ·split
  ·exact ⟨⟨hx,hy,hc.1⟩,hx,Nat.mod_lt _ (by decide),hc.2.2⟩
  ·exact ⟨Ln.X7,hx,hy,(by decide:(0:Nat)<18446744073709551616)⟩
theorem Bg {c:Nc} (hc:c.Lt) {x y:Nat} (hx:x<18446744073709551616) (hy:y<2 ^ 128):(J9 c x y).Ok:=by
 unfold J9
 split
 ·exact ⟨Ln.X7,Nat.mod_lt _ (by decide),hy,hc.2.2⟩
 ·exact L7 hc hx hy
theorem RD {c:Nc} (e:c.of=2∨c.of=4) (x y:Nat):qi c x y=⟨⟨0,0,0⟩,⟨x,y,c.b⟩,false⟩:=if_pos e
theorem Qlw {c:Nc} (e:c.of=3) (x y:Nat):qi c x y=⟨⟨x,y,c.a⟩,⟨x,(y+(c.a - c.b)*c.d) % 2 ^ 128,c.b⟩,true⟩:=by unfold qi;rw[if_neg (by omega),if_pos e]
theorem pn {c:Nc} (e:c.of=0∨c.of=1) (x y:Nat):qi c x y=⟨⟨0,0,0⟩,⟨x,y,0⟩,false⟩:=by unfold qi;rw[if_neg (by omega),if_neg (by omega)]
theorem po (c:Nc) (hc:c.Lt) (x y:Nat) (hx:x<18446744073709551616) (hy:y<2 ^ 128):Q7 Tryz.prog 181 [vj c,u64 x,num y] (Qm (.agg (qi c x y).cells)):=by
 refine Zk 0 Qe 200 Tryz.func181 rfl Tryz.ntmps181 Tryz.results181 rfl fun base w hb=>?_
 simp only[go_sem,simprocAttr]
 refine QM hb wv rfl ?_ (Gd c.a c.d c.b) (Qm.flat rfl) rfl fun d h hR=>?_
 ·simp only[go_sem,simprocAttr]
 obtain ⟨rfl,rfl⟩:=hR
 refine Qc hb ?_
 simp only[go_sem,simprocAttr]
 rcases Qlj c.a c.d c.b with e | e | e | e | e
 ·rw[pn (.inl e)]
  simp only[go_sem,simprocAttr,e]
 ·rw[pn (.inr e)]
  simp only[go_sem,simprocAttr,e]
 ·rw[RD (.inl e)]
  simp only[go_sem,simprocAttr,e]
 ·have ZZ:c.b<c.a∧c.a≤4294967295:=by
   unfold JR at e
   repeat' (split at e)
   all_goals first | omega | contradiction
  have e1:=LD c.a c.b (by omega) (by omega)
  rw[Qlw e]
  simp only[go_sem,simprocAttr,e,e1]
  refine QA Qe hb 200 mixed [(0,true),(1,true),(2,true),(3,true),(4,true),(5,true),(6,true),(7,true),(8,false),(9,false),(10,true),(11,true),(12,true),(13,false),(14,false),(15,true)] (by kernel_rfl) (by kernel_rfl) ?_
  simp only[go_sem,simprocAttr,e1]
  refine Zo hb jE rfl ?_ (jR (c.a - c.b) c.d (by omega) hc.2.1) (Qm.flat rfl) rfl fun d h hR=>?_
  ·simp only[go_sem,simprocAttr,e1]
  obtain ⟨rfl,rfl⟩:=hR
  refine QF hb ?_
  simp only[go_sem,simprocAttr,e1]
  refine Zo hb Fw rfl ?_ (Ga y ((c.a - c.b)*c.d) hy (o0 (by omega) hc.2.1)) (Qm.flat rfl) rfl fun d h hR=>?_
  ·simp only[go_sem,simprocAttr,e1]
  obtain ⟨rfl,rfl⟩:=hR
  refine QF hb ?_
  simp only[go_sem,simprocAttr,e1]
 ·rw[RD (.inr e)]
  simp only[go_sem,simprocAttr,e]
theorem RE (c:Nc) (hc:c.Lt) (x y:Nat) (hx:x<18446744073709551616) (hy:y<2 ^ 128):Q7 Tryz.prog 180 [vj c,u64 x,num y] (Qm (.agg (J9 c x y).cells)):=by
 refine Zk 0 Qe 200 Tryz.func180 rfl Tryz.ntmps180 Tryz.results180 rfl fun base w hb=>?_
 simp only[go_sem,simprocAttr]
 refine QM hb mz rfl ?_ (po c hc x y hx hy) (Qm.flat rfl) rfl fun d h hR=>?_
 ·simp only[go_sem,simprocAttr]
 obtain ⟨rfl,rfl⟩:=hR
 refine Qc hb ?_
 simp only[go_sem,simprocAttr]
 refine QM hb wv rfl ?_ (Gd c.a c.d c.b) (Qm.flat rfl) rfl fun d h hR=>?_
 ·simp only[go_sem,simprocAttr]
 obtain ⟨rfl,rfl⟩:=hR
 refine Qc hb ?_
 simp only[go_sem,simprocAttr]
 by_cases e:c.of=4
 ·have e0:JR c.a c.d c.b=4:=e
  rw[RD (.inr e),show J9 c x y=⟨⟨0,0,0⟩,⟨(x+c.d) % 18446744073709551616,y,c.b⟩,false⟩ from if_pos e]
  simp only[go_sem,simprocAttr,e0,AY]
 ·have e0:(JR c.a c.d c.b == 4)=false:=by simpa [Nc.of] using e
  rw[show J9 c x y=qi c x y from if_neg e]
  simp only[go_sem,simprocAttr,e0]
def WJ (a b:Rn):Rn:=⟨if a.b then wU a.f b.f else ⟨0,0,0⟩,wU a.t b.t,a.b⟩
theorem RF {a b:Rn} (ha:a.Ok) (hb:b.Ok):(WJ a b).Ok:=by
 refine ⟨?_,o9 ha.t hb.t⟩
 unfold WJ
 dsimp only
 split
 ·exact o9 ha.f hb.f
 ·exact Ln.X7
theorem Ma (a b:Rn) (ha:a.Ok) (ZZ:b.Ok):Q7 Tryz.prog 179 [.agg a.cells,.agg b.cells] (Qm (.agg (WJ a b).cells)):=by
 refine Zk 0 Qe 200 Tryz.func179 rfl Tryz.ntmps179 Tryz.results179 rfl fun base w hb=>?_
 simp only[go_sem,simprocAttr]
 refine QA Qe hb 200 mixed [(0,true),(1,true),(2,true),(3,true),(5,true),(6,true),(4,false),(7,true),(8,false),(9,false)] (by kernel_rfl) (by kernel_rfl) ?_
 simp only[go_sem,simprocAttr]
 refine Zo hb mF rfl ?_ (pb a.t b.t ha.t ZZ.t) (Qm.flat rfl) rfl fun d h hR=>?_
 ·simp only[go_sem,simprocAttr]
 obtain ⟨rfl,rfl⟩:=hR
 refine QF hb ?_
 simp only[go_sem,simprocAttr]
 cases h:a.b with
 | true=>
  rw[show WJ a b=⟨wU a.f b.f,wU a.t b.t,true⟩ from by unfold WJ;rw[h];rfl]
  simp only[go_sem,simprocAttr,h]
  refine QM hb mF rfl ?_ (pb a.f b.f ha.f ZZ.f) (Qm.flat rfl) rfl fun d h hR=>?_
  ·simp only[go_sem,simprocAttr]
  obtain ⟨rfl,rfl⟩:=hR
  refine Qc hb ?_
  simp only[go_sem,simprocAttr]
 | false=>
  rw[show WJ a b=⟨⟨0,0,0⟩,wU a.t b.t,false⟩ from by unfold WJ;rw[h];rfl]
  simp only[go_sem,simprocAttr,h]
def W7 (r:Rn) (w:Nat):Nat:=if r.b then max (jS r.f w) (jS r.t w) else jS r.t w
theorem Ge (r:Rn) (w:Nat):W7 r w≤never:=by
 have:=o6 r.f w
 have:=o6 r.t w
 unfold W7;split <;> omega
theorem Qlx (r:Rn):Q7 Tryz.prog 170 [.agg r.cells] (Qm (.agg ((if r.b then r.f else r.t).cells++r.t.cells))):=by
 refine Zk 0 Qe 200 Tryz.func170 rfl Tryz.ntmps170 Tryz.results170 rfl fun base w hb=>?_
 simp only[go_sem,simprocAttr]
 cases h:r.b with
 | true=>
  simp only[go_sem,simprocAttr,h]
 | false=>
  simp only[go_sem,simprocAttr,h]
theorem zN (a:Nat):max (0:Int) (a:Int)=(a:Int):=by omega
theorem Mb (r:Rn) (hr:r.Ok) (v:Nat) (hv:v<2 ^ 128):Q7 Tryz.prog 109 [.agg r.cells,num v] (Qm (u64 (W7 r v))):=by
 have m1:∀ a b:Nat,max (a:Int) (b:Int)=((max a b:Nat):Int):=fun a b=>by omega
 refine Zk 0 Qe 200 Tryz.func109 rfl Tryz.ntmps109 Tryz.results109 rfl fun base w hb=>?_
 simp only[go_sem,simprocAttr]
 refine QM hb Qis rfl ?_ (Qlx r) (Qm.flat rfl) rfl fun d h hR=>?_
 ·simp only[go_sem,simprocAttr]
 obtain ⟨rfl,rfl⟩:=hR
 refine Qc hb ?_
 simp only[go_sem,simprocAttr]
 cases h:r.b with
 | true=>
  rw[show W7 r v=max (jS r.f v) (jS r.t v) from by unfold W7;rw[h];rfl]
  simp only[go_sem,simprocAttr,h]
  refine wL 2 ?_
  refine Qc hb ?_
  simp only[go_sem,simprocAttr]
  refine QM hb Lf rfl ?_ (L0 r.f hr.f v hv) (Qm.flat rfl) rfl fun d h hR=>?_
  ·simp only[go_sem,simprocAttr,zN]
  obtain ⟨rfl,rfl⟩:=hR
  refine Qc hb ?_
  simp only[go_sem,simprocAttr,zN]
  refine Qc hb ?_
  simp only[go_sem,simprocAttr,zN]
  refine Qc hb ?_
  simp only[go_sem,simprocAttr,zN]
  refine QM hb Lf rfl ?_ (L0 r.t hr.t v hv) (Qm.flat rfl) rfl fun d h hR=>?_
  ·simp only[go_sem,simprocAttr,zN,m1]
  obtain ⟨rfl,rfl⟩:=hR
  refine Qc hb ?_
  simp only[go_sem,simprocAttr,zN,m1]
  refine Qc hb ?_
  simp only[go_sem,simprocAttr,m1]
  refine Qc hb ?_
  simp only[go_sem,simprocAttr,m1]
 | false=>
  rw[show W7 r v=max (jS r.t v) (jS r.t v) from by unfold W7;rw[h];simp]
  simp only[go_sem,simprocAttr,h]
  refine wL 2 ?_
  refine Qc hb ?_
  simp only[go_sem,simprocAttr]
  refine QM hb Lf rfl ?_ (L0 r.t hr.t v hv) (Qm.flat rfl) rfl fun d h hR=>?_
  ·simp only[go_sem,simprocAttr,zN]
  obtain ⟨rfl,rfl⟩:=hR
  refine Qc hb ?_
  simp only[go_sem,simprocAttr,zN]
  refine Qc hb ?_
  simp only[go_sem,simprocAttr,zN]
  refine Qc hb ?_
  simp only[go_sem,simprocAttr,zN]
  refine QM hb Lf rfl ?_ (L0 r.t hr.t v hv) (Qm.flat rfl) rfl fun d h hR=>?_
  ·simp only[go_sem,simprocAttr,zN,m1]
  obtain ⟨rfl,rfl⟩:=hR
  refine Qc hb ?_
  simp only[go_sem,simprocAttr,zN,m1]
  refine Qc hb ?_
  simp only[go_sem,simprocAttr,m1]
  refine Qc hb ?_
  simp only[go_sem,simprocAttr,m1]
def Vj (n:Nat):Nat:=n % 18446744073709551616
theorem Bh (n:Nat):Vj n<18446744073709551616:=Nat.mod_lt _ (by decide)
theorem pq (a b:Nat):IntKind.u64.wrap ((a:Int)+(b:Int))=((Vj (a+b):Nat):Int):=AY a b
structure Du where
 has:Bool
 dl:Rn
 rd:Rn
 ZK:Nat
 Vw:Nat
 dead:Nat
deriving DecidableEq
instance:Inhabited Du:=⟨⟨false,default,default,0,0,0⟩⟩
structure Du.Ok (d:Du):Prop where
 dl:d.dl.Ok
 rd:d.rd.Ok
 ZK:d.ZK<18446744073709551616
 Vw:d.Vw≤never
 dead:d.dead≤never
@[go_sem] def Du.cells (d:Du):List D:=[QN d.has,u64 d.dl.f.x,u64 (d.dl.f.y / 18446744073709551616),u64 (d.dl.f.y % 18446744073709551616),u64 d.dl.f.m,u64 d.dl.t.x,u64 (d.dl.t.y / 18446744073709551616),u64 (d.dl.t.y % 18446744073709551616),u64 d.dl.t.m,QN d.dl.b,
 u64 d.rd.f.x,u64 (d.rd.f.y / 18446744073709551616),u64 (d.rd.f.y % 18446744073709551616),u64 d.rd.f.m,u64 d.rd.t.x,u64 (d.rd.t.y / 18446744073709551616),u64 (d.rd.t.y % 18446744073709551616),u64 d.rd.t.m,QN d.rd.b,u64 d.ZK,u64 d.Vw,u64 d.dead]
def jT (l:Du) (head:Int):Du:=
 if 0<head then ⟨l.has,l.dl,l.rd,l.ZK,W7 l.rd (l.ZK*65536),W7 l.dl (Vj (l.ZK+head.toNat)*65536)⟩ else ⟨l.has,l.dl,l.rd,l.ZK,never,never⟩
theorem RG {l:Du} (h1:l.dl.Ok) (h2:l.rd.Ok) (h3:l.ZK<18446744073709551616) (head:Int):(jT l head).Ok:=by
 unfold jT
 split
 ·exact ⟨h1,h2,h3,Ge _ _,Ge _ _⟩
 ·exact ⟨h1,h2,h3,Nat.le_refl _,Nat.le_refl _⟩
theorem Mc (n:Nat) (hn:n<18446744073709551616):Q7 Tryz.prog 178 [u64 n] (Qm (num (n*65536))):=by
 refine Zk 0 Qe 200 Tryz.func178 rfl Tryz.ntmps178 Tryz.results178 rfl fun base w hb=>?_
 simp only[go_sem,simprocAttr]
 refine QM hb jE rfl ?_ (jR n 65536 hn (by decide)) (Qm.flat rfl) rfl fun d h hR=>?_
 ·simp only[go_sem,simprocAttr]
 obtain ⟨rfl,rfl⟩:=hR
 refine Qc hb ?_
 simp only[go_sem,simprocAttr]
theorem Bi {n:Int} (h1:0≤n) (h2:n<18446744073709551616):IntKind.u64.wrap n=((n.toNat:Nat):Int):=by rw[IntKind.wrap_u64];omega
theorem RH (l:Du) (h1:l.dl.Ok) (h2:l.rd.Ok) (h3:l.ZK<18446744073709551616) (head:Int) (hh:head<9223372036854775808):Q7 Tryz.prog 173 [.agg l.cells,Qb head] (Qm (.agg (jT l head).cells)):=by
 have b1:∀ n:Nat,n<18446744073709551616→n*65536<2 ^ 128:=fun n hn=>by omega
 by_cases h:0<head
 ·have d1:=decide_eq_true h
  have e1:=Bi (n:=head) (by omega) (by omega)
  rw[show jT l head=⟨l.has,l.dl,l.rd,l.ZK,W7 l.rd (l.ZK*65536),W7 l.dl (Vj (l.ZK+head.toNat)*65536)⟩ from if_pos h]
  refine Zk 0 Qe 200 Tryz.func173 rfl Tryz.ntmps173 Tryz.results173 rfl fun base w hb=>?_
  simp only[go_sem,simprocAttr]
  simp only[go_sem,simprocAttr,d1]
  refine QA Qe hb 200 mixed [(0,true),(1,true),(2,true),(3,true),(4,false),(5,false),(6,true),(7,false)] (by kernel_rfl) (by kernel_rfl) ?_
  simp only[go_sem,simprocAttr]
  refine Zo hb Lh rfl ?_ (Mc l.ZK h3) (Qm.flat rfl) rfl fun d h hR=>?_
  ·simp only[go_sem,simprocAttr]
  obtain ⟨rfl,rfl⟩:=hR
  refine QF hb ?_
  simp only[go_sem,simprocAttr]
  refine Zo hb Ld rfl ?_ (Mb l.rd h2 (l.ZK*65536) (b1 _ h3)) (Qm.flat rfl) rfl fun d h hR=>?_
  ·simp only[go_sem,simprocAttr]
  obtain ⟨rfl,rfl⟩:=hR
  refine QF hb ?_
  simp only[go_sem,simprocAttr]
  refine QA Qe hb 200 mixed [(0,true),(1,true),(2,true),(3,true),(4,true),(5,true),(6,true),(7,false),(8,false),(9,true),(10,false)] (by kernel_rfl) (by kernel_rfl) ?_
  simp only[go_sem,simprocAttr,e1,pq]
  refine Zo hb Lh rfl ?_ (Mc (Vj (l.ZK+head.toNat)) (Bh _)) (Qm.flat rfl) rfl fun d h hR=>?_
  ·simp only[go_sem,simprocAttr]
  obtain ⟨rfl,rfl⟩:=hR
  refine QF hb ?_
  simp only[go_sem,simprocAttr]
  refine Zo hb Ld rfl ?_ (Mb l.dl h1 (Vj (l.ZK+head.toNat)*65536) (b1 _ (Bh _))) (Qm.flat rfl) rfl fun d h hR=>?_
  ·simp only[go_sem,simprocAttr]
  obtain ⟨rfl,rfl⟩:=hR
  refine QF hb ?_
  simp only[go_sem,simprocAttr]
 ·have d1:=decide_eq_false h
  rw[show jT l head=⟨l.has,l.dl,l.rd,l.ZK,never,never⟩ from if_neg h]
  refine Zk 0 Qe 200 Tryz.func173 rfl Tryz.ntmps173 Tryz.results173 rfl fun base w hb=>?_
  simp only[go_sem,simprocAttr]
  simp only[go_sem,simprocAttr,d1]
  rfl
def Md (l:Du) (ZR head:Int):Du:=jT { l with ZK:=Vj (l.ZK+ZR.toNat) } head
theorem Qly (l:Du) (h1:l.dl.Ok) (h2:l.rd.Ok) (h3:l.ZK<18446744073709551616) (ZR head:Int) (VP:0≤ZR) (hs:ZR<9223372036854775808) (hh:head<9223372036854775808):Q7 Tryz.prog 112 [.agg l.cells,Qb ZR,Qb head] (Qm (.agg (Md l ZR head).cells)):=by
 have e0:max ZR 0=ZR:=by omega
 have e1:=Bi (n:=ZR) VP (by omega)
 refine Zk 0 Qe 200 Tryz.func112 rfl Tryz.ntmps112 Tryz.results112 rfl fun base w hb=>?_
 simp only[go_sem,simprocAttr]
 simp only[go_sem,simprocAttr,e0,e1,pq]
 refine QM hb O3 rfl ?_ (RH { l with ZK:=Vj (l.ZK+ZR.toNat) } h1 h2 (Bh _) head hh) (Qm.flat rfl) rfl fun d h hR=>?_
 ·simp only[go_sem,simprocAttr]
 obtain ⟨rfl,rfl⟩:=hR
 refine Qc hb ?_
 simp only[go_sem,simprocAttr]
 rfl
theorem Qlz (l:Du) (h1:l.dl.Ok) (h2:l.rd.Ok) (h3:l.ZK<18446744073709551616) (head:Int) (hh:head<9223372036854775808):Q7 Tryz.prog 114 [.agg l.cells,Qb head] (Qm (.agg (jT l head).cells)):=by
 refine Zk 0 Qe 200 Tryz.func114 rfl Tryz.ntmps114 Tryz.results114 rfl fun base w hb=>?_
 simp only[go_sem,simprocAttr]
 refine QM hb O3 rfl ?_ (RH l h1 h2 h3 head hh) (Qm.flat rfl) rfl fun d h hR=>?_
 ·simp only[go_sem,simprocAttr]
 obtain ⟨rfl,rfl⟩:=hR
 refine Qc hb ?_
 simp only[go_sem,simprocAttr]
structure Qu where
 l:List Pk
 ci:Nat
 co:Nat
 cd:Nat
 bi:Nat
 bo:Nat
 bd:Nat
instance:Inhabited Qu:=⟨⟨[],0,0,0,0,0,0⟩⟩
def Vk:List Pk→Nat
 | []=>0
 | p::l=>p.len.toNat+Vk l
theorem QlA (l m:List Pk):Vk (l++m)=Vk l+Vk m:=by
 induction l with
 | nil=>simp [Vk]
 | cons p l ih=>simp only[List.cons_append,Vk,ih];omega
def Dm (p:Pk):Prop:=1≤p.len∧p.len≤16384
theorem pw {l:List Pk} (h:∀ p∈l,Dm p):Vk l≤16384*l.length:=by
 induction l with
 | nil=>simp [Vk]
 | cons p l ih=>
  have h1:=h p (by simp)
  have h2:=ih fun q hq=>h q (by simp [hq])
  unfold Dm at h1
  simp only[Vk,List.length_cons]
  omega
@[go_sem] def Qu.cts (q:Qu):List D:=[u64 q.ci,u64 q.co,u64 q.cd,u64 q.bi,u64 q.bo,u64 q.bd]
def WK (Za room:Int) (q:Qu) (p:Pk):Bool:=decide (room<Vk q.l+p.len) || decide ((q.l.length:Int)=Za)
def Kx (Za room:Int) (q:Qu) (p:Pk):Qu:=
 if WK Za room q p then { q with cd:=Vj (q.cd+1),bd:=Vj (q.bd+p.len.toNat) }
 else { q with l:=q.l++[p],ci:=Vj (q.ci+1),bi:=Vj (q.bi+p.len.toNat) }
def Vl (q:Qu):Qu:={ q with l:=q.l.tail,co:=Vj (q.co+1),bo:=Vj (q.bo+(q.l.headD default).len.toNat) }
def zO (q:Qu):Int:=match q.l with | []=>0 | p::_=>p.len
@[go_sem] def Dn (r:Nat) (room:Int) (q:Qu):Ob:=⟨.one,0,9,1,fun _=>[.ptr r 0 0 0,Qb room,Qb (Vk q.l:Nat),u64 q.ci,u64 q.co,u64 q.cd,u64 q.bi,u64 q.bo,u64 q.bd]⟩
structure RI (S:Nat→Prop) (h:List Ob) (p r Za:Nat) (room:Int) (q:Qu):Prop where
 o:h[p]? = some (Dn r room q)
 ring:X4 (fun l=>S l∧l≠p) h r Za q.l
 rp:r≠p
 sp:S p
 lens:∀ x∈q.l,Dm x
 r0:0≤room
 r1:room≤1048576
def YA (S:Nat→Prop) (h:List Ob) (p Za:Nat) (room:Int) (q:Qu):Prop:=∃ r,RI S h p r Za room q
theorem X4.step {S S':Nat→Prop} {h h':List Ob} {r room:Nat} {L:List Pk} (e:∀ l,l<h.length→S l→S' l∧h'[l]? = h[l]?):X4 S h r room L→X4 S' h' r room L:=fun ⟨a,f,row,T⟩=>
 ⟨a,f,row,((e _ (Qd T.o) T.sr).2).trans T.o,((e _ (Qd T.ao) T.sa).2).trans T.ao,T.ra,T.fl,T.len,T.qP,T.rows,T.lens,(e _ (Qd T.o) T.sr).1,(e _ (Qd T.ao) T.sa).1⟩
theorem X4.pz {S:Nat→Prop} {h:List Ob} {r room:Nat} {L:List Pk}:X4 S h r room L→L.length≤room∧room≤64:=fun ⟨a,f,row,T⟩=>⟨T.len,T.qP⟩
theorem YA.step {S S':Nat→Prop} {h h':List Ob} {p Za:Nat} {room:Int} {q:Qu} (e:∀ l,l<h.length→S l→S' l∧h'[l]? = h[l]?):YA S h p Za room q→YA S' h' p Za room q:=fun ⟨r,Q⟩=>
 ⟨r,((e _ (Qd Q.o) Q.sp).2).trans Q.o,Q.ring.step fun l hl ⟨h1,h2⟩=>⟨⟨(e l hl h1).1,h2⟩,(e l hl h1).2⟩,Q.rp,(e _ (Qd Q.o) Q.sp).1,Q.lens,Q.r0,Q.r1⟩
structure QlC (h:List Ob) (p r Za:Nat) (room:Int) (q:Qu):Prop where
 o:(h.map Ob.ro)[p]? = some (Dn r room q).ro
 ring:F9 h r Za q.l
def Dp (h:List Ob) (p Za:Nat) (room:Int) (q:Qu):Prop:=∃ r,QlC h p r Za room q
theorem YA.toR {S:Nat→Prop} {h:List Ob} {p Za:Nat} {room:Int} {q:Qu}:YA S h p Za room q→Dp h p Za room q:=fun ⟨r,Q⟩=>⟨r,Zv Q.o,Q.ring.toR⟩
theorem Dp.more {h h':List Ob} {p Za:Nat} {room:Int} {q:Qu} (e:∀ (l:Nat) (o:Ob),(h.map Ob.ro)[l]? = some o→(h'.map Ob.ro)[l]? = some o):Dp h p Za room q→Dp h' p Za room q:=fun ⟨r,Q⟩=>⟨r,e _ _ Q.o,Q.ring.more e⟩
section
variable {h:List Ob} {p Za:Nat} {room:Int} {q:Qu} (Q:Dp h p Za room q)
include Q
theorem Dq:QQ Tryz.prog 41 h [.ptr p 0 0 0] (fun d=>d=Qb q.l.length):=by
 obtain ⟨r,ho,hr⟩:=Q
 refine Zh Qe 200 Tryz.func41 rfl Tryz.ntmps41 Tryz.results41 rfl fun base w pl F hF QR hb=>?_
 rw[← hF] at ho
 have Qf:=Qd ho
 simp only[go_sem,simprocAttr,Qa,ho,Qf]
 obtain ⟨a,f,row,T⟩:=hr
 refine QL hb Qh7 rfl ?_ (Qk1 (T.more (JM hF))) rfl fun d hR=>?_
 ·simp only[go_sem,simprocAttr,Qa,ho,Qf]
 subst hR
 refine Qc hb ?_
 simp only[go_sem,simprocAttr,Qa,ho,Qf]
 all_goals first | exact ⟨_,rfl,rfl⟩ | exact ⟨_,rfl⟩ | rfl | exact ⟨[],(List.append_nil _).symm⟩ | exact ⟨[],(List.append_nil _).symm,rfl⟩
theorem pA:QQ Tryz.prog 113 h [.ptr p 0 0 0] (fun d=>d=Qb (zO q)):=by
 have Q0:=Q
 obtain ⟨r,ho,hr⟩:=Q
 obtain ⟨a,f,row,T⟩:=hr
 unfold zO
 cases hl:q.l with
 | nil=>
  refine Zh Qe 200 Tryz.func113 rfl Tryz.ntmps113 Tryz.results113 rfl fun base w pl F hF QR hb=>?_
  rw[← hF] at ho
  have Qf:=Qd ho
  simp only[go_sem,simprocAttr,Qa,ho,Qf]
  refine QL hb Cz rfl ?_ (Dq (Q0.more (JM hF))) rfl fun d hR=>?_
  ·simp only[go_sem,simprocAttr,Qa,ho,Qf,hl]
  subst hR
  refine Qc hb ?_
  simp only[go_sem,simprocAttr,Qa,ho,Qf,hl]
  all_goals first | exact ⟨_,rfl,rfl⟩ | exact ⟨_,rfl⟩ | rfl | exact ⟨[],(List.append_nil _).symm⟩ | exact ⟨[],(List.append_nil _).symm,rfl⟩
 | cons x l=>
  have d0:(((l.length+1:Nat):Int) == 0)=false:=by simp;omega
  refine Zh Qe 200 Tryz.func113 rfl Tryz.ntmps113 Tryz.results113 rfl fun base w pl F hF QR hb=>?_
  rw[← hF] at ho
  have Qf:=Qd ho
  simp only[go_sem,simprocAttr,Qa,ho,Qf]
  refine QL hb Cz rfl ?_ (Dq (Q0.more (JM hF))) rfl fun d hR=>?_
  ·simp only[go_sem,simprocAttr,Qa,ho,Qf,hl,d0]
  subst hR
  refine Qc hb ?_
  simp only[go_sem,simprocAttr,Qa,ho,Qf,hl,d0]
  refine QL hb mq rfl ?_ (oR (T.more (JM hF)) 0 (by rw[hl];simp)) rfl fun d hR=>?_
  ·simp only[go_sem,simprocAttr,Qa,ho,Qf,hl]
  subst hR
  refine Qc hb ?_
  simp only[go_sem,simprocAttr,Qa,ho,Qf,hl]
  all_goals first | exact ⟨_,rfl,rfl⟩ | exact ⟨_,rfl⟩ | rfl | exact ⟨[],(List.append_nil _).symm⟩ | exact ⟨[],(List.append_nil _).symm,rfl⟩
end
theorem QlD (h:List Ob) (n:Nat) (room:Int) (h1:1≤n) (h2:n≤64) (h3:1≤room) (h4:room≤1048576):QG Tryz.prog 141 h [Qb n,Qb room] (fun d h'=>d=.tup [.ptr (h.length+2) 0 0 0,Qb 0]∧YA (fun l=>h.length≤l) h' (h.length+2) n room ⟨[],0,0,0,0,0,0⟩∧∃ g,h'=h++g∧g.length=3):=by
 have d1:decide (room<1)=false:=decide_eq_false (by omega)
 have d2:decide (1048576<room)=false:=decide_eq_false (by omega)
 refine QW Qe 200 Tryz.func141 rfl Tryz.ntmps141 Tryz.results141 rfl fun base w pl hb=>?_
 simp only[go_sem,simprocAttr,Qa]
 refine Q5 hb Qiz rfl ?_ (Qk5 h n h1 h2) rfl fun d h hR=>?_
 ·simp only[go_sem,simprocAttr,Qa,d1,d2]
 obtain ⟨rfl,R,g,rfl,hg⟩:=hR
 refine Qc hb ?_
 simp only[go_sem,simprocAttr,Qa,d1,d2]
 have hl:(h++g).length=h.length+2:=by rw[List.length_append,hg]
 refine ⟨by rw[hg],⟨h.length+1,?_,?_,by omega,by show h.length≤_;omega,by simp,by omega,by omega⟩,g++[Dn (h.length+1) room ⟨[],0,0,0,0,0,0⟩],by rfl,by simp [hg]⟩
 ·rw[show h.length+2=(h++g).length by omega]
  rw[← List.append_assoc,List.getElem?_append_right (Nat.le_refl _),Nat.sub_self]
  rfl
 ·rw[← List.append_assoc]
  refine R.step fun l Ze Jd=>⟨⟨Jd,by omega⟩,List.getElem?_append_left Ze⟩
theorem Bj (a b:Nat):IntKind.u64.wrap ((a:Int)+(b:Int))=((Vj (a+b):Nat):Int):=AY a b
theorem Bk (a:Nat):IntKind.u64.wrap ((a:Int)+1)=((Vj (a+1):Nat):Int):=AY a 1
theorem RI.fin {S:Nat→Prop} {h H:List Ob} {p r Za:Nat} {room:Int} {q q':Qu} (Q:RI S h p r Za room q) (hp:H[p]? = some (Dn r room q')) (hl:∀ l,l<h.length→l≠p→H[l]? = h[l]?) (hn:h.length≤H.length) (e:q'.l=q.l):YA S H p Za room q'∧Step S h H:=
 ⟨⟨r,hp,by rw[e];exact Q.ring.step fun l h1 h2=>⟨h2,hl l h1 h2.2⟩,Q.rp,Q.sp,by rw[e];exact Q.lens,Q.r0,Q.r1⟩,⟨fun l h1 h2=>hl l h1 fun e2=>h2 (e2▸Q.sp),hn⟩⟩
theorem QlE {S:Nat→Prop} {h:List Ob} {p Za:Nat} {room:Int} {q:Qu} (Q:YA S h p Za room q) (x:Pk) (hx:Dm x) :
  QG Tryz.prog 48 h [.ptr p 0 0 0,.agg x.cells] (fun d h'=>d=Qb (if WK Za room q x then 30 else 0)∧YA S h' p Za room (Kx Za room q x)∧Step S h h'):=by
 obtain ⟨r,Q⟩:=Q
 have ho:=Q.o
 have hR:=Q.ring
 have xQ:=hx.1
 have KD:=hx.2
 have hle:=hR.pz
 have WI:=pw Q.lens
 have ji:=Q.r0
 have jg:=Q.r1
 have d1:decide (x.len<1)=false:=decide_eq_false (by omega)
 have d2:decide (16384<x.len)=false:=decide_eq_false (by omega)
 have e1:IntKind.i64.wrap (room - (Vk q.l:Nat))=room - (Vk q.l:Nat):=wrap64 (by omega) (by omega)
 have e2:IntKind.u64.wrap x.len=((x.len.toNat:Nat):Int):=Bi (by omega) (by omega)
 by_cases Je:room<Vk q.l+x.len
 ·have d3:decide (room - (Vk q.l:Nat)<x.len)=true:=decide_eq_true (by omega)
  have hf:WK Za room q x=true:=by unfold WK;rw[decide_eq_true Je];rfl
  unfold Kx
  rw[hf]
  refine QW Qe 200 Tryz.func48 rfl Tryz.ntmps48 Tryz.results48 rfl fun base w pl hb=>?_
  have Qf:=Qd ho
  simp only[go_sem,simprocAttr,Qa,ho,Qf,d1,d2]
  refine QA Qe hb 200 mixed [(0,true),(1,true),(2,true),(3,true),(4,true),(5,true),(6,true),(7,true),(8,true),(9,true),(10,true),(11,true),(12,true),(13,true),(14,true),(15,true),(16,true),(17,true),(18,false),(19,true),(20,true),(21,true)] (by kernel_rfl) (by kernel_rfl) ?_
  simp only[go_sem,simprocAttr,Qa,ho,Qf,e1,d3,Bk]
  refine QA Qe hb 200 mixed [(0,true),(1,true),(2,true),(3,true),(4,true),(5,true),(6,true),(7,true),(8,true),(9,true),(10,true),(11,true),(12,false)] (by kernel_rfl) (by kernel_rfl) ?_
  simp only[go_sem,simprocAttr,Qa,ho,Qf,e2,Qw Qf,Bj]
  refine Q.fin (q':={ q with cd:=Vj (q.cd+1),bd:=Vj (q.bd+x.len.toNat) }) ?_ ?_ ?_ rfl
  ·rw[QU (by simpa using Qf),Qw Qf];rfl
  ·intro l h1 h2
   rw[QU (by simpa using h1),Qt (Ne.symm h2)]
  ·simp
 ·have d3:decide (room - (Vk q.l:Nat)<x.len)=false:=decide_eq_false (by omega)
  refine QW Qe 200 Tryz.func48 rfl Tryz.ntmps48 Tryz.results48 rfl fun base w pl hb=>?_
  have Qf:=Qd ho
  simp only[go_sem,simprocAttr,Qa,ho,Qf,d1,d2]
  refine VY [18] Qe hb 200 mixed [(0,true),(1,true),(2,true),(3,true),(4,true),(5,true),(6,true),(7,true),(8,true),(9,true),(10,true),(11,true),(12,true),(13,true),(14,true),(15,true),(16,true),(17,true),(18,false),(19,true),(20,true),(21,true)] [] (by kernel_rfl) (by kernel_rfl) ?_
  simp only[go_sem,simprocAttr,Qa,ho,Qf,e1,d3]
  have Me:=hR.step (S':=fun l=>S l∧l≠p∧l<h.length) (h':=h++[⟨.one,0,6,1,fun _=>x.cells⟩]) fun l h1 h2=>⟨⟨h2.1,h2.2,h1⟩,QU h1⟩
  refine Wf hb Qia rfl ?_ (Qk2 Me x) rfl fun d h6 RJ=>?_
  ·simp only[go_sem,simprocAttr,Qa,ho,Qf]
  obtain ⟨rfl,R6,s6⟩:=RJ
  have jU:h.length<h6.length:=by have:=s6.len;simp only[List.length_append,List.length_singleton] at this;omega
  have X8:h6[p]? = some (Dn r room q):=(s6.keep p (by simp;omega) (fun h=>h.2.1 rfl)).trans ((QU Qf).trans ho)
  have Wh:=Qd X8
  have qR:=(s6.keep h.length (by simp) (fun h=>by have:=h.2.2;omega)).trans (Kq rfl)
  have keep:∀ l,l<h.length→¬ S l→h6[l]? = h[l]? := fun l h1 h2=>(s6.keep l (by simp;omega) (fun h=>h2 h.1)).trans (QU h1)
  have Dr:p≠h.length:=by omega
  refine QF hb ?_
  by_cases hlen:q.l.length=Za
  ·have hf:WK Za room q x=true:=by unfold WK;rw[decide_eq_true (show (q.l.length:Int)=(Za:Int) by omega)];simp
   rw[if_pos hlen] at R6
   simp only[go_sem,simprocAttr,Qa,if_pos hlen,X8,Wh,qR,Bk]
   refine QA Qe hb 200 mixed [(0,true),(1,true),(2,true),(3,true),(4,true),(5,true),(6,true),(7,true),(8,true),(9,true),(10,true),(11,true),(12,false)] (by kernel_rfl) (by kernel_rfl) ?_
   simp only[go_sem,simprocAttr,Qa,X8,Wh,e2,Qw Wh,Bj,qR,jU,Qt Dr]
   unfold Kx
   rw[hf]
   refine ⟨by rfl,⟨r,?_,R6.step fun l h1 h2=>⟨⟨h2.1,h2.2.1⟩,?_⟩,Q.rp,Q.sp,Q.lens,Q.r0,Q.r1⟩,⟨fun l h1 h2=>?_,?_⟩⟩
   ·rw[Qw Wh];rfl
   ·rw[Qt (Ne.symm h2.2.1)]
   ·rw[Qt (fun (e:p=l)=>h2 (e▸Q.sp))];exact keep l h1 h2
   ·simp;omega
  ·have hf:WK Za room q x=false:=by unfold WK;rw[decide_eq_false Je,decide_eq_false (show ¬ (q.l.length:Int)=(Za:Int) by omega)];rfl
   have e4:IntKind.i64.wrap (((Vk q.l:Nat):Int)+x.len)=((Vk (q.l++[x]):Nat):Int):=by
    rw[QlA];simp only[Vk];rw[wrap64 (by omega) (by omega)];omega
   rw[if_neg hlen] at R6
   simp only[go_sem,simprocAttr,Qa,if_neg hlen,X8,Wh,qR,Bk]
   refine QA Qe hb 200 mixed [(0,true),(1,true),(2,true),(3,true),(4,true),(5,true),(6,true),(7,true),(8,true),(9,false)] (by kernel_rfl) (by kernel_rfl) ?_
   simp only[go_sem,simprocAttr,Qa,X8,Wh,e2,Qw Wh,Bj,Bk,qR,jU,Qt Dr,e4]
   refine QA Qe hb 200 mixed [(0,true),(1,true),(2,true),(3,true),(4,true),(5,true),(6,true),(7,true),(8,true),(9,true),(10,true),(11,true),(12,false)] (by kernel_rfl) (by kernel_rfl) ?_
   simp only[go_sem,simprocAttr,Qa,X8,Wh,e2,Qw Wh,Bj,Bk,qR,jU,Qt Dr,e4]
   unfold Kx
   rw[hf]
   refine ⟨by rfl,⟨r,?_,R6.step fun l h1 h2=>⟨⟨h2.1,h2.2.1⟩,?_⟩,Q.rp,Q.sp,?_,Q.r0,Q.r1⟩,⟨fun l h1 h2=>?_,?_⟩⟩
   ·rw[Qw Wh];rfl
   ·rw[Qt (Ne.symm h2.2.1)]
   ·intro y hy
    rcases List.mem_append.1 hy with hy | hy
    ·exact Q.lens y hy
    ·rw[List.mem_singleton.1 hy];exact hx
   ·rw[Qt (fun (e:p=l)=>h2 (e▸Q.sp))];exact keep l h1 h2
   ·simp;omega
theorem QlF {S:Nat→Prop} {h:List Ob} {p Za:Nat} {room:Int} {q:Qu} {x:Pk} {L:List Pk} (Q:YA S h p Za room q) (hq:q.l=x::L) :
  QG Tryz.prog 36 h [.ptr p 0 0 0] (fun d h'=>d=.tup [.agg x.cells,Qb 0]∧YA S h' p Za room (Vl q)∧Step S h h'):=by
 obtain ⟨r,Q⟩:=Q
 have ho:=Q.o
 have hR:=Q.ring
 have hx:=Q.lens x (by rw[hq];simp)
 have xQ:=hx.1
 have KD:=hx.2
 have hle:=hR.pz
 have WI:=pw Q.lens
 have e2:IntKind.u64.wrap x.len=((x.len.toNat:Nat):Int):=Bi (by omega) (by omega)
 have e4:IntKind.i64.wrap (((Vk q.l:Nat):Int) - x.len)=((Vk L:Nat):Int):=by
  have e5:Vk q.l=x.len.toNat+Vk L:=by rw[hq];rfl
  rw[wrap64 (by omega) (by omega)];omega
 refine QW Qe 200 Tryz.func36 rfl Tryz.ntmps36 Tryz.results36 rfl fun base w pl hb=>?_
 have Qf:=Qd ho
 simp only[go_sem,simprocAttr,Qa,ho,Qf]
 have Me:=hR.step (S':=fun l=>S l∧l≠p∧l<h.length) (h':=h++[⟨.one,0,6,1,fun _=>(default:Pk).cells⟩]) fun l h1 h2=>⟨⟨h2.1,h2.2,h1⟩,QU h1⟩
 rw[hq] at Me
 refine Q5 hb Qh4 rfl ?_ (Qk3 Me) rfl fun d h6 RJ=>?_
 ·simp only[go_sem,simprocAttr,Qa,ho,Qf]
 obtain ⟨rfl,R6,s6⟩:=RJ
 have jU:h.length<h6.length:=by have:=s6.len;simp only[List.length_append,List.length_singleton] at this;omega
 have X8:h6[p]? = some (Dn r room q):=(s6.keep p (by simp;omega) (fun h=>h.2.1 rfl)).trans ((QU Qf).trans ho)
 have Wh:=Qd X8
 have qR:=(s6.keep h.length (by simp) (fun h=>by have:=h.2.2;omega)).trans (Kq rfl)
 have keep:∀ l,l<h.length→¬ S l→h6[l]? = h[l]? := fun l h1 h2=>(s6.keep l (by simp;omega) (fun h=>h2 h.1)).trans (QU h1)
 have Dr:p≠h.length:=by omega
 refine Qc hb ?_
 simp only[go_sem,simprocAttr,Qa,X8,Wh,qR]
 refine QA Qe hb 200 mixed [(0,true),(1,true),(2,true),(3,true),(4,true),(5,true),(6,true),(7,true),(8,true),(9,false)] (by kernel_rfl) (by kernel_rfl) ?_
 simp only[go_sem,simprocAttr,Qa,X8,Wh,e2,Qw Wh,Bj,Bk,qR,jU,Qt Dr,e4]
 refine QA Qe hb 200 mixed [(0,true),(1,true),(2,true),(3,true),(4,true),(5,true),(6,true),(7,true),(8,true),(9,true),(10,true),(11,true),(12,false)] (by kernel_rfl) (by kernel_rfl) ?_
 simp only[go_sem,simprocAttr,Qa,X8,Wh,e2,Qw,Bj,Bk,qR,jU,Qt Dr,e4]
 have key:∀ (A B C:Ob) (l:Nat),l<h.length→(((h6.set p A).set h.length B)++[C])[l]? = (h6.set p A)[l]? := fun A B C l h1=>by
  rw[QU (by simp;omega),Qt (by omega)]
 have eq:(Vl q).l=L:=by simp [Vl,hq]
 refine ⟨⟨r,?_,?_,Q.rp,Q.sp,?_,Q.r0,Q.r1⟩,⟨fun l h1 h2=>?_,?_⟩⟩
 ·rw[key _ _ _ _ Qf,Qw Wh,Vl,hq];rfl
 ·rw[eq]
  refine R6.step fun l h1 h2=>⟨⟨h2.1,h2.2.1⟩,?_⟩
  rw[key _ _ _ _ h2.2.2,Qt (Ne.symm h2.2.1)]
 ·intro y hy
  rw[eq] at hy
  exact Q.lens y (by rw[hq];simp [hy])
 ·rw[key _ _ _ _ h1,Qt (fun (e:p=l)=>h2 (e▸Q.sp))];exact keep l h1 h2
 ·simp;omega
def zP (l:Du) (qk new:Rn):Rn:=if l.has then WJ qk new else new
theorem Mf {l:Du} {qk new:Rn} (h1:qk.Ok) (h2:new.Ok):(zP l qk new).Ok:=by unfold zP;split;exact RF h1 h2;exact h2
def W8 (l:Du) (c:Nc) (now:Nat) (head:Int):Du:=
 jT ⟨true,zP l l.dl (J9 c now (l.ZK*65536)),zP l l.rd (qi c now (l.ZK*65536)),l.ZK,l.Vw,l.dead⟩ head
section
variable {h:List Ob} {b1 b2 b3:Nat} (l:Du) (h3:l.ZK<18446744073709551616) (c:Nc) (hc:c.Lt) (now:Nat) (hn:now<18446744073709551616)
 (o1:(h.map Ob.ro)[b1]? = some ⟨.Ku,0,3,1,fun _=>c.cells⟩) (o2:(h.map Ob.ro)[b2]? = some ⟨.Ku,0,1,1,fun _=>[u64 now]⟩) (o3:(h.map Ob.ro)[b3]? = some ⟨.Ku,0,22,1,fun _=>l.cells⟩)
include h3 hc hn o1 o2 o3
theorem QlG (qk:Rn) (hw:qk.Ok):QQ Tryz.prog 177 h [.agg qk.cells,.raw (.func (.func 180) #[] #[]),.ptr b1 0 0 0,.ptr b2 0 0 0,.ptr b3 0 0 0] (fun d=>d=.agg (zP l qk (J9 c now (l.ZK*65536))).cells):=by
 have hs:=Bg hc hn (y:=l.ZK*65536) (by omega)
 refine Zh Qe 200 Tryz.func177 rfl Tryz.ntmps177 Tryz.results177 rfl fun base w pl F hF QR hb=>?_
 rw[← hF] at o1 o2 o3
 have Xv:=Qd o1
 have Xw:=Qd o2
 have Xx:=Qd o3
 simp only[go_sem,simprocAttr,Qa,o1,Xv,o2,Xw,o3,Xx]
 refine QA Qe hb 200 mixed [(0,true),(1,true),(2,true),(3,true),(4,true),(5,false),(6,false),(7,false),(8,false)] (by kernel_rfl) (by kernel_rfl) ?_
 simp only[go_sem,simprocAttr,Qa,o1,Xv,o2,Xw,o3,Xx]
 refine Zo hb Lh rfl ?_ (Mc l.ZK h3) (Qm.flat rfl) rfl fun d h hR=>?_
 ·simp only[go_sem,simprocAttr,Qa,o1,Xv,o2,Xw,o3,Xx]
 obtain ⟨rfl,rfl⟩:=hR
 refine QF hb ?_
 simp only[go_sem,simprocAttr,Qa,o1,Xv,o2,Xw,o3,Xx]
 refine Zo hb O7 rfl ?_ (RE c hc now (l.ZK*65536) hn (by omega)) (Qm.flat rfl) rfl fun d h hR=>?_
 ·simp only[go_sem,simprocAttr,Qa,o1,Xv,o2,Xw,o3,Xx]
 obtain ⟨rfl,rfl⟩:=hR
 refine QF hb ?_
 simp only[go_sem,simprocAttr,Qa,o1,Xv,o2,Xw,o3,Xx]
 unfold zP
 cases hh:l.has with
 | true=>
  simp only[go_sem,simprocAttr,Qa,hh]
  refine QM hb Li rfl ?_ (Ma qk _ hw hs) (Qm.flat rfl) rfl fun d h hR=>?_
  ·simp only[go_sem,simprocAttr,Qa,o1,Xv,o2,Xw,o3,Xx]
  obtain ⟨rfl,rfl⟩:=hR
  refine Qc hb ?_
  simp only[go_sem,simprocAttr,Qa,o1,Xv,o2,Xw,o3,Xx]
  all_goals first | exact ⟨_,rfl,rfl⟩ | exact ⟨_,rfl⟩ | rfl | exact ⟨[],(List.append_nil _).symm⟩ | exact ⟨[],(List.append_nil _).symm,rfl⟩
 | false=>
  simp only[go_sem,simprocAttr,Qa,hh]
  all_goals first | exact ⟨_,rfl,rfl⟩ | exact ⟨_,rfl⟩ | rfl | exact ⟨[],(List.append_nil _).symm⟩ | exact ⟨[],(List.append_nil _).symm,rfl⟩
theorem QlH (qk:Rn) (hw:qk.Ok):QQ Tryz.prog 177 h [.agg qk.cells,.raw (.func (.func 181) #[] #[]),.ptr b1 0 0 0,.ptr b2 0 0 0,.ptr b3 0 0 0] (fun d=>d=.agg (zP l qk (qi c now (l.ZK*65536))).cells):=by
 have hs:=L7 hc hn (y:=l.ZK*65536) (by omega)
 refine Zh Qe 200 Tryz.func177 rfl Tryz.ntmps177 Tryz.results177 rfl fun base w pl F hF QR hb=>?_
 rw[← hF] at o1 o2 o3
 have Xv:=Qd o1
 have Xw:=Qd o2
 have Xx:=Qd o3
 simp only[go_sem,simprocAttr,Qa,o1,Xv,o2,Xw,o3,Xx]
 refine QA Qe hb 200 mixed [(0,true),(1,true),(2,true),(3,true),(4,true),(5,false),(6,false),(7,false),(8,false)] (by kernel_rfl) (by kernel_rfl) ?_
 simp only[go_sem,simprocAttr,Qa,o1,Xv,o2,Xw,o3,Xx]
 refine Zo hb Lh rfl ?_ (Mc l.ZK h3) (Qm.flat rfl) rfl fun d h hR=>?_
 ·simp only[go_sem,simprocAttr,Qa,o1,Xv,o2,Xw,o3,Xx]
 obtain ⟨rfl,rfl⟩:=hR
 refine QF hb ?_
 simp only[go_sem,simprocAttr,Qa,o1,Xv,o2,Xw,o3,Xx]
 refine Zo hb mz rfl ?_ (po c hc now (l.ZK*65536) hn (by omega)) (Qm.flat rfl) rfl fun d h hR=>?_
 ·simp only[go_sem,simprocAttr,Qa,o1,Xv,o2,Xw,o3,Xx]
 obtain ⟨rfl,rfl⟩:=hR
 refine QF hb ?_
 simp only[go_sem,simprocAttr,Qa,o1,Xv,o2,Xw,o3,Xx]
 unfold zP
 cases hh:l.has with
 | true=>
  simp only[go_sem,simprocAttr,Qa,hh]
  refine QM hb Li rfl ?_ (Ma qk _ hw hs) (Qm.flat rfl) rfl fun d h hR=>?_
  ·simp only[go_sem,simprocAttr,Qa,o1,Xv,o2,Xw,o3,Xx]
  obtain ⟨rfl,rfl⟩:=hR
  refine Qc hb ?_
  simp only[go_sem,simprocAttr,Qa,o1,Xv,o2,Xw,o3,Xx]
  all_goals first | exact ⟨_,rfl,rfl⟩ | exact ⟨_,rfl⟩ | rfl | exact ⟨[],(List.append_nil _).symm⟩ | exact ⟨[],(List.append_nil _).symm,rfl⟩
 | false=>
  simp only[go_sem,simprocAttr,Qa,hh]
  all_goals first | exact ⟨_,rfl,rfl⟩ | exact ⟨_,rfl⟩ | rfl | exact ⟨[],(List.append_nil _).symm⟩ | exact ⟨[],(List.append_nil _).symm,rfl⟩
end
theorem QlI (l:Du) (hl:l.Ok) (c:Nc) (hc:c.Lt) (now:Nat) (hn:now<18446744073709551616) (head:Int) (hh:head<9223372036854775808):Q7 Tryz.prog 124 [.agg l.cells,vj c,u64 now,Qb head] (Qm (.agg (W8 l c now head).cells)):=by
 have h3:=hl.ZK
 have hs:=Bg hc hn (y:=l.ZK*65536) (by omega)
 have hr:=L7 hc hn (y:=l.ZK*65536) (by omega)
 refine Zk 0 Qe 200 Tryz.func124 rfl Tryz.ntmps124 Tryz.results124 rfl fun base w hb=>?_
 simp only[go_sem,simprocAttr]
 refine QA Qe hb 200 mixed [(0,true),(1,true),(2,true),(4,true),(5,true),(6,true),(3,false),(8,true),(7,false),(9,false),(10,true),(11,false)] (by kernel_rfl) (by kernel_rfl) ?_
 simp only[go_sem,simprocAttr]
 refine Ju hb my rfl ?_ (QlG (b1:=1) (b2:=2) (b3:=0) l h3 c hc now hn rfl rfl rfl l.dl hl.dl) rfl fun d hR=>?_
 ·simp only[go_sem,simprocAttr,Qa]
 subst hR
 refine QF hb ?_
 simp only[go_sem,simprocAttr,Qa]
 refine Ju hb my rfl ?_ (QlH (b1:=1) (b2:=2) (b3:=0) l h3 c hc now hn rfl rfl rfl l.rd hl.rd) rfl fun d hR=>?_
 ·simp only[go_sem,simprocAttr,Qa]
 subst hR
 refine QF hb ?_
 simp only[go_sem,simprocAttr,Qa]
 refine QM hb O3 rfl ?_ (RH ⟨true,zP l l.dl (J9 c now (l.ZK*65536)),zP l l.rd (qi c now (l.ZK*65536)),l.ZK,l.Vw,l.dead⟩ (Mf hl.dl hs) (Mf hl.rd hr) h3 head hh) (Qm.flat rfl) rfl fun d h hR=>?_
 ·simp only[go_sem,simprocAttr]
 obtain ⟨rfl,rfl⟩:=hR
 refine Qc hb ?_
 simp only[go_sem,simprocAttr]
 rfl
theorem pB {l:Du} (hl:l.Ok) {c:Nc} (hc:c.Lt) {now:Nat} (hn:now<18446744073709551616) (head:Int):(W8 l c now head).Ok:=by
 have h3:=hl.ZK
 exact RG (l:=⟨true,zP l l.dl (J9 c now (l.ZK*65536)),zP l l.rd (qi c now (l.ZK*65536)),l.ZK,l.Vw,l.dead⟩) (Mf hl.dl (Bg hc hn (y:=l.ZK*65536) (by omega))) (Mf hl.rd (L7 hc hn (y:=l.ZK*65536) (by omega))) h3 head
structure Sh where
 has:Bool
 run:Rn
 time:Nat
deriving DecidableEq
instance:Inhabited Sh:=⟨⟨false,default,0⟩⟩
structure Sh.Ok (x:Sh):Prop where
 run:x.run.Ok
 time:x.time<18446744073709551616
@[go_sem] def Sh.cells (x:Sh):List D:=[QN x.has,u64 x.run.f.x,u64 (x.run.f.y / 18446744073709551616),u64 (x.run.f.y % 18446744073709551616),u64 x.run.f.m,u64 x.run.t.x,u64 (x.run.t.y / 18446744073709551616),u64 (x.run.t.y % 18446744073709551616),u64 x.run.t.m,QN x.run.b,u64 x.time]
def wV (r:Rn) (total:Nat):Nat:=if r.b then max (max (W7 r (total*65536)) r.t.x) r.f.x else max (W7 r (total*65536)) r.t.x
theorem pC {r:Rn} (h:r.Ok) (total:Nat):wV r total<18446744073709551616:=by
 have h1:=Ge r (total*65536)
 have h2:=h.t.x
 have h3:=h.f.x
 unfold never at h1
 unfold wV;split <;> omega
theorem Ds (a b:Nat):max (a:Int) (b:Int)=((max a b:Nat):Int):=by omega
theorem Gf (a:Nat):max (0:Int) (a:Int)=(a:Int):=by omega
theorem QlJ {h:List Ob} {b g:Nat} {row:Nat→List D} (o:(h.map Ob.ro)[b]? = some ⟨.xC,g,1,2,row⟩) (x y:Nat) (e0:row 0=[u64 x]) (e1:row 1=[u64 y]):QQ Tryz.prog 169 h [.ref b g 0 2] (fun d=>d=u64 (max x y)):=by
 refine Zh Qe 200 Tryz.func169 rfl Tryz.ntmps169 Tryz.results169 rfl fun base w pl F hF QR hb=>?_
 rw[← hF] at o
 have vm:=Qd o
 simp only[go_sem,simprocAttr,Qa,o,vm]
 refine wL 2 ?_
 refine Qc hb ?_
 simp only[go_sem,simprocAttr,Qa,o,vm,e0,e1]
 refine Qc hb ?_
 simp only[go_sem,simprocAttr,Qa,o,vm,e0,e1,Gf,Ds]
 refine Qc hb ?_
 simp only[go_sem,simprocAttr,Qa,o,vm,e0,e1,Gf,Ds]
 refine Qc hb ?_
 simp only[go_sem,simprocAttr,Qa]
 all_goals first | exact ⟨_,rfl,rfl⟩ | exact ⟨_,rfl⟩ | rfl | exact ⟨[],(List.append_nil _).symm⟩ | exact ⟨[],(List.append_nil _).symm,rfl⟩
theorem QlK {h:List Ob} {b g:Nat} {row:Nat→List D} (o:(h.map Ob.ro)[b]? = some ⟨.xC,g,1,3,row⟩) (x y z:Nat) (e0:row 0=[u64 x]) (e1:row 1=[u64 y]) (e2:row 2=[u64 z]):QQ Tryz.prog 169 h [.ref b g 0 3] (fun d=>d=u64 (max (max x y) z)):=by
 refine Zh Qe 200 Tryz.func169 rfl Tryz.ntmps169 Tryz.results169 rfl fun base w pl F hF QR hb=>?_
 rw[← hF] at o
 have vm:=Qd o
 simp only[go_sem,simprocAttr,Qa,o,vm]
 refine wL 3 ?_
 refine Qc hb ?_
 simp only[go_sem,simprocAttr,Qa,o,vm,e0,e1,e2]
 refine Qc hb ?_
 simp only[go_sem,simprocAttr,Qa,o,vm,e0,e1,e2,Gf,Ds]
 refine Qc hb ?_
 simp only[go_sem,simprocAttr,Qa,o,vm,e0,e1,e2,Gf,Ds]
 refine Qc hb ?_
 simp only[go_sem,simprocAttr,Qa,o,vm,e0,e1,e2,Gf,Ds]
 refine Qc hb ?_
 simp only[go_sem,simprocAttr,Qa]
 all_goals first | exact ⟨_,rfl,rfl⟩ | exact ⟨_,rfl⟩ | rfl | exact ⟨[],(List.append_nil _).symm⟩ | exact ⟨[],(List.append_nil _).symm,rfl⟩
theorem RK (r:Rn) (hr:r.Ok) (total:Nat) (ht:total<18446744073709551616):Q7 Tryz.prog 108 [.agg r.cells,u64 total] (Qm (u64 (wV r total))):=by
 unfold wV
 refine Zk 0 Qe 200 Tryz.func108 rfl Tryz.ntmps108 Tryz.results108 rfl fun base w hb=>?_
 simp only[go_sem,simprocAttr]
 refine QA Qe hb 200 mixed [(0,true),(1,true),(2,false),(3,false),(4,true)] (by kernel_rfl) (by kernel_rfl) ?_
 simp only[go_sem,simprocAttr]
 refine Zo hb jE rfl ?_ (jR total 65536 ht (by decide)) (Qm.flat rfl) rfl fun d h hR=>?_
 ·simp only[go_sem,simprocAttr]
 obtain ⟨rfl,rfl⟩:=hR
 refine QF hb ?_
 simp only[go_sem,simprocAttr]
 refine Zo hb Ld rfl ?_ (Mb r hr (total*65536) (by omega)) (Qm.flat rfl) rfl fun d h hR=>?_
 ·simp only[go_sem,simprocAttr]
 obtain ⟨rfl,rfl⟩:=hR
 refine QF hb ?_
 simp only[go_sem,simprocAttr]
 cases h:r.b with
 | true=>
  simp only[go_sem,simprocAttr,h]
  refine QL hb mv rfl ?_ (QlK (b:=1) (g:=0) (by exact rfl) (W7 r (total*65536)) r.t.x r.f.x (by exact rfl) (by exact rfl) (by exact rfl)) rfl fun d hR=>?_
  ·simp only[go_sem,simprocAttr,Qa]
  subst hR
  refine Qc hb ?_
  simp only[go_sem,simprocAttr,Qa]
 | false=>
  simp only[go_sem,simprocAttr,h]
  refine QL hb mv rfl ?_ (QlJ (b:=1) (g:=0) (by exact rfl) (W7 r (total*65536)) r.t.x (by exact rfl) (by exact rfl)) rfl fun d hR=>?_
  ·simp only[go_sem,simprocAttr,Qa]
  subst hR
  refine Qc hb ?_
  simp only[go_sem,simprocAttr,Qa]
def Bl (x:Sh) (c:Nc) (low total:Nat):Sh:=
 ⟨true,if x.has then WJ x.run (J9 c low (total*65536)) else J9 c low (total*65536),wV (if x.has then WJ x.run (J9 c low (total*65536)) else J9 c low (total*65536)) total⟩
def yI (x:Sh) (total:Nat):Sh:=if x.has then ⟨true,x.run,wV x.run total⟩ else x
theorem RL {x:Sh} (hx:x.Ok) {c:Nc} (hc:c.Lt) {low total:Nat} (hl:low<18446744073709551616) (ht:total<18446744073709551616):(if x.has then WJ x.run (J9 c low (total*65536)) else J9 c low (total*65536)).Ok:=by
 have h1:=Bg hc hl (y:=total*65536) (by omega)
 split
 ·exact RF hx.run h1
 ·exact h1
theorem QlL {x:Sh} (hx:x.Ok) {c:Nc} (hc:c.Lt) {low total:Nat} (hl:low<18446744073709551616) (ht:total<18446744073709551616):(Bl x c low total).Ok:=
 ⟨RL hx hc hl ht,pC (RL hx hc hl ht) _⟩
theorem QlM {x:Sh} (hx:x.Ok) (total:Nat):(yI x total).Ok:=by
 unfold yI;split
 ·exact ⟨hx.run,pC hx.run _⟩
 ·exact hx
theorem QlN (x:Sh) (hx:x.Ok) (c:Nc) (hc:c.Lt) (low total:Nat) (hl:low<18446744073709551616) (ht:total<18446744073709551616):Q7 Tryz.prog 126 [.agg x.cells,vj c,u64 low,u64 total] (Qm (.agg (Bl x c low total).cells)):=by
 have h1:=Bg hc hl (y:=total*65536) (by omega)
 have h2:=RL hx hc hl ht
 refine Zk 0 Qe 200 Tryz.func126 rfl Tryz.ntmps126 Tryz.results126 rfl fun base w hb=>?_
 simp only[go_sem,simprocAttr]
 refine QA Qe hb 200 mixed [(0,true),(1,true),(2,true),(3,false),(4,false),(5,false),(6,false)] (by kernel_rfl) (by kernel_rfl) ?_
 simp only[go_sem,simprocAttr]
 refine Zo hb jE rfl ?_ (jR total 65536 ht (by decide)) (Qm.flat rfl) rfl fun d h hR=>?_
 ·simp only[go_sem,simprocAttr]
 obtain ⟨rfl,rfl⟩:=hR
 refine QF hb ?_
 simp only[go_sem,simprocAttr]
 refine Zo hb O7 rfl ?_ (RE c hc low (total*65536) hl (by omega)) (Qm.flat rfl) rfl fun d h hR=>?_
 ·simp only[go_sem,simprocAttr]
 obtain ⟨rfl,rfl⟩:=hR
 refine QF hb ?_
 simp only[go_sem,simprocAttr]
 cases h:x.has with
 | true=>
  rw[h,if_pos rfl] at h2
  rw[show Bl x c low total=⟨true,WJ x.run (J9 c low (total*65536)),wV (WJ x.run (J9 c low (total*65536))) total⟩ from by unfold Bl;rw[h];rfl]
  simp only[go_sem,simprocAttr,h]
  refine QM hb Li rfl ?_ (Ma x.run _ hx.run h1) (Qm.flat rfl) rfl fun d h hR=>?_
  ·simp only[go_sem,simprocAttr]
  obtain ⟨rfl,rfl⟩:=hR
  refine Qc hb ?_
  simp only[go_sem,simprocAttr]
  refine QA Qe hb 200 mixed [(0,true),(1,true),(2,true),(3,false),(4,true),(5,false)] (by kernel_rfl) (by kernel_rfl) ?_
  simp only[go_sem,simprocAttr]
  refine Zo hb OZ rfl ?_ (RK (WJ x.run (J9 c low (total*65536))) h2 total ht) (Qm.flat rfl) rfl fun d h hR=>?_
  ·simp only[go_sem,simprocAttr]
  obtain ⟨rfl,rfl⟩:=hR
  refine QF hb ?_
  simp only[go_sem,simprocAttr]
 | false=>
  rw[show Bl x c low total=⟨true,J9 c low (total*65536),wV (J9 c low (total*65536)) total⟩ from by unfold Bl;rw[h];rfl]
  simp only[go_sem,simprocAttr,h]
  refine QA Qe hb 200 mixed [(0,true),(1,true),(2,true),(3,false),(4,true),(5,false)] (by kernel_rfl) (by kernel_rfl) ?_
  simp only[go_sem,simprocAttr]
  refine Zo hb OZ rfl ?_ (RK (J9 c low (total*65536)) h1 total ht) (Qm.flat rfl) rfl fun d h hR=>?_
  ·simp only[go_sem,simprocAttr]
  obtain ⟨rfl,rfl⟩:=hR
  refine QF hb ?_
  simp only[go_sem,simprocAttr]
theorem QlO (x:Sh) (hx:x.Ok) (total:Nat) (ht:total<18446744073709551616):Q7 Tryz.prog 38 [.agg x.cells,u64 total] (Qm (.agg (yI x total).cells)):=by
 cases h:x.has with
 | true=>
  rw[show yI x total=⟨true,x.run,wV x.run total⟩ from by unfold yI;rw[h];rfl]
  refine Zk 0 Qe 200 Tryz.func38 rfl Tryz.ntmps38 Tryz.results38 rfl fun base w hb=>?_
  simp only[go_sem,simprocAttr]
  simp only[go_sem,simprocAttr,h]
  refine QM hb OZ rfl ?_ (RK x.run hx.run total ht) (Qm.flat rfl) rfl fun d h hR=>?_
  ·simp only[go_sem,simprocAttr]
  obtain ⟨rfl,rfl⟩:=hR
  refine Qc hb ?_
  simp only[go_sem,simprocAttr]
 | false=>
  rw[show yI x total=x from by unfold yI;rw[h];rfl]
  refine Zk 0 Qe 200 Tryz.func38 rfl Tryz.ntmps38 Tryz.results38 rfl fun base w hb=>?_
  simp only[go_sem,simprocAttr]
  simp only[go_sem,simprocAttr,h]
structure Cp where
 has:Bool
 run:Rn
 fit:Nat
deriving DecidableEq
instance:Inhabited Cp:=⟨⟨false,default,0⟩⟩
structure Cp.Ok (x:Cp):Prop where
 run:x.run.Ok
 fit:x.fit≤never
@[go_sem] def Cp.cells (x:Cp):List D:=[QN x.has,u64 x.run.f.x,u64 (x.run.f.y / 18446744073709551616),u64 (x.run.f.y % 18446744073709551616),u64 x.run.f.m,u64 x.run.t.x,u64 (x.run.t.y / 18446744073709551616),u64 (x.run.t.y % 18446744073709551616),u64 x.run.t.m,QN x.run.b,u64 x.fit]
def RM:Cp:=⟨false,⟨⟨0,0,0⟩,⟨0,0,0⟩,false⟩,0⟩
def vn (x:Cp) (total:Nat):Cp:=if x.has then ⟨true,x.run,W7 x.run (total*65536)⟩ else x
def wW (x:Cp) (c:Nc) (now total:Nat):Cp:=
 if c.of=0∨c.of=1 then RM
 else ⟨true,if x.has then WJ x.run (J9 c now (total*65536)) else J9 c now (total*65536),W7 (if x.has then WJ x.run (J9 c now (total*65536)) else J9 c now (total*65536)) (total*65536)⟩
theorem QlP:RM.Ok:=⟨⟨Ln.X7,Ln.X7⟩,Nat.zero_le _⟩
theorem QlQ {x:Cp} (hx:x.Ok) (total:Nat):(vn x total).Ok:=by
 unfold vn;split
 ·exact ⟨hx.run,Ge _ _⟩
 ·exact hx
theorem pD {x:Cp} (hx:x.Ok) {c:Nc} (hc:c.Lt) {low total:Nat} (hl:low<18446744073709551616) (ht:total<18446744073709551616):(if x.has then WJ x.run (J9 c low (total*65536)) else J9 c low (total*65536)).Ok:=by
 have h1:=Bg hc hl (y:=total*65536) (by omega)
 split
 ·exact RF hx.run h1
 ·exact h1
theorem QlR {x:Cp} (hx:x.Ok) {c:Nc} (hc:c.Lt) {now total:Nat} (hl:now<18446744073709551616) (ht:total<18446744073709551616):(wW x c now total).Ok:=by
 unfold wW;split
 ·exact QlP
 ·exact ⟨pD hx hc hl ht,Ge _ _⟩
theorem RN (x:Cp) (hx:x.Ok) (total:Nat) (ht:total<18446744073709551616):Q7 Tryz.prog 39 [.agg x.cells,u64 total] (Qm (.agg (vn x total).cells)):=by
 cases h:x.has with
 | true=>
  rw[show vn x total=⟨true,x.run,W7 x.run (total*65536)⟩ from by unfold vn;rw[h];rfl]
  refine Zk 0 Qe 200 Tryz.func39 rfl Tryz.ntmps39 Tryz.results39 rfl fun base w hb=>?_
  simp only[go_sem,simprocAttr]
  simp only[go_sem,simprocAttr,h]
  refine QA Qe hb 200 mixed [(0,true),(1,true),(2,true),(3,false),(4,false),(5,true),(6,false)] (by kernel_rfl) (by kernel_rfl) ?_
  simp only[go_sem,simprocAttr]
  refine Zo hb jE rfl ?_ (jR total 65536 ht (by decide)) (Qm.flat rfl) rfl fun d h hR=>?_
  ·simp only[go_sem,simprocAttr]
  obtain ⟨rfl,rfl⟩:=hR
  refine QF hb ?_
  simp only[go_sem,simprocAttr]
  refine Zo hb Ld rfl ?_ (Mb x.run hx.run (total*65536) (by omega)) (Qm.flat rfl) rfl fun d h hR=>?_
  ·simp only[go_sem,simprocAttr]
  obtain ⟨rfl,rfl⟩:=hR
  refine QF hb ?_
  simp only[go_sem,simprocAttr]
 | false=>
  rw[show vn x total=x from by unfold vn;rw[h];rfl]
  refine Zk 0 Qe 200 Tryz.func39 rfl Tryz.ntmps39 Tryz.results39 rfl fun base w hb=>?_
  simp only[go_sem,simprocAttr]
  simp only[go_sem,simprocAttr,h]
theorem QlS (x:Cp) (hx:x.Ok) (c:Nc) (hc:c.Lt) (now total:Nat) (hl:now<18446744073709551616) (ht:total<18446744073709551616):Q7 Tryz.prog 127 [.agg x.cells,vj c,u64 now,u64 total] (Qm (.agg (wW x c now total).cells)):=by
 have h1:=Bg hc hl (y:=total*65536) (by omega)
 have h2:=pD hx hc hl ht
 refine Zk 0 Qe 200 Tryz.func127 rfl Tryz.ntmps127 Tryz.results127 rfl fun base w hb=>?_
 simp only[go_sem,simprocAttr]
 refine QA Qe hb 200 mixed [(0,true),(1,true),(2,true),(3,false),(4,false),(5,false),(6,false)] (by kernel_rfl) (by kernel_rfl) ?_
 simp only[go_sem,simprocAttr]
 refine Zo hb jE rfl ?_ (jR total 65536 ht (by decide)) (Qm.flat rfl) rfl fun d h hR=>?_
 ·simp only[go_sem,simprocAttr]
 obtain ⟨rfl,rfl⟩:=hR
 refine QF hb ?_
 simp only[go_sem,simprocAttr]
 refine Zo hb O7 rfl ?_ (RE c hc now (total*65536) hl (by omega)) (Qm.flat rfl) rfl fun d h hR=>?_
 ·simp only[go_sem,simprocAttr]
 obtain ⟨rfl,rfl⟩:=hR
 refine QF hb ?_
 simp only[go_sem,simprocAttr]
 refine QM hb wv rfl ?_ (Gd c.a c.d c.b) (Qm.flat rfl) rfl fun d h hR=>?_
 ·simp only[go_sem,simprocAttr]
 obtain ⟨rfl,rfl⟩:=hR
 refine Qc hb ?_
 simp only[go_sem,simprocAttr]
 by_cases e:c.of=0∨c.of=1
 ·rw[show wW x c now total=RM from if_pos e]
  have e':JR c.a c.d c.b=0∨JR c.a c.d c.b=1:=e
  rcases e' with e' | e'
  ·simp only[go_sem,simprocAttr,e']
   rfl
  ·simp only[go_sem,simprocAttr,e']
   rfl
 ·have d0:(JR c.a c.d c.b == 0)=false:=by rw[beq_eq_false_iff_ne];exact fun h=>e (.inl h)
  have d1:(JR c.a c.d c.b == 1)=false:=by rw[beq_eq_false_iff_ne];exact fun h=>e (.inr h)
  cases h:x.has with
  | true=>
   rw[h,if_pos rfl] at h2
   rw[show wW x c now total=vn ⟨true,WJ x.run (J9 c now (total*65536)),0⟩ total from by unfold wW;rw[if_neg e,h];rfl]
   simp only[go_sem,simprocAttr,d0,d1,h]
   refine QM hb Li rfl ?_ (Ma x.run _ hx.run h1) (Qm.flat rfl) rfl fun d h hR=>?_
   ·simp only[go_sem,simprocAttr]
   obtain ⟨rfl,rfl⟩:=hR
   refine Qc hb ?_
   simp only[go_sem,simprocAttr]
   refine QM hb OT rfl ?_ (RN ⟨true,WJ x.run (J9 c now (total*65536)),0⟩ ⟨h2,Nat.zero_le _⟩ total ht) (Qm.flat rfl) rfl fun d h hR=>?_
   ·simp only[go_sem,simprocAttr]
   obtain ⟨rfl,rfl⟩:=hR
   refine Qc hb ?_
   simp only[go_sem,simprocAttr]
  | false=>
   rw[show wW x c now total=vn ⟨true,J9 c now (total*65536),0⟩ total from by unfold wW;rw[if_neg e,h];rfl]
   simp only[go_sem,simprocAttr,d0,d1,h]
   refine QM hb OT rfl ?_ (RN ⟨true,J9 c now (total*65536),0⟩ ⟨h1,Nat.zero_le _⟩ total ht) (Qm.flat rfl) rfl fun d h hR=>?_
   ·simp only[go_sem,simprocAttr]
   obtain ⟨rfl,rfl⟩:=hR
   refine Qc hb ?_
   simp only[go_sem,simprocAttr]
theorem QlT (a b:Nat):Q7 Tryz.prog 144 [u64 a,u64 b] (Qm (u64 (max a b))):=by
 refine Zk 0 Qe 200 Tryz.func144 rfl Tryz.ntmps144 Tryz.results144 rfl fun base w hb=>?_
 simp only[go_sem,simprocAttr]
 simp only[go_sem,simprocAttr,Ds]
def RO:Go.Shelf.Ren:=⟨fun | 5=>143 | 7=>195 | n=>n,fun | 23=>216 | 25=>3 | 3=>62 | 4=>4 | 20=>20 | n=>n,fun | n=>n⟩
theorem QlU:SlLaysW.n5 Tryz.prog RO:={
 mixed:=by kernel_rfl
 f5:=⟨Tryz.f143.name,by kernel_rfl,Tryz.func143.trans (congrArg some (show Tryz.f143={ SlBodyW.n5 RO with name:=Tryz.f143.name } by kernel_rfl))⟩
 f7:=Tryz.func195.trans (congrArg some (show Tryz.f195=SlBodyW.n7 RO by kernel_rfl))
 t4:=Tryz.underlying4
 a4:=Tryz.isAgg4
 z4:=Tryz.sizeOf4
 v4:=Tryz.zeroValue4
 t20:=Tryz.underlying20
 a20:=Tryz.isAgg20
 z20:=Tryz.sizeOf20
 v20:=Tryz.zeroValue20
 t23:=Tryz.underlying216
 a23:=Tryz.isAgg216
 z23:=Tryz.sizeOf216
 v23:=Tryz.zeroValue216 }
theorem QlV {h:List Ob} {m c:Nat} {es:List QK} (hm:h[m]? = some (QE .i64 c es)):QG Tryz.prog 143 h [.mref m 0] (fun d h'=>d=.mref h.length 0∧h'=h++[QE .i64 c es]):=by
 intro Z base w pl vs QI hZ R Yp hv
 match vs,Yp with
 | [v],_=>
 obtain ⟨o,p,b,h1,h2,h3,h4,h5⟩:=y9 (hv 0 (by simp))
 rw[hm] at h1;cases h1
 have hp:=h5 rfl
 subst hp
 have xK:v=.map (some b):=h3.2
 subst xK
 obtain ⟨_,jr⟩:=R.at_ m _ b 0 hm h2
 obtain ⟨RP,Zz,Gg,clock,hb,hn,Z5,ZY,Dt,Bm⟩:=jr.map rfl
 refine (AnyW.maps_Clone QlU b Gg clock w hb).mono ?_
 rintro e w' ⟨rfl,rfl⟩
 have e:∀ b,b<w.heap.size→(w.alloc (.map Gg clock)).heap[b]? = w.heap[b]? := fun b hb=>YP w _ b hb
 have T:Go.Fg.Tr h pl w (h++[QE .i64 c es]) (pl++[some (w.heap.size,0)]) (w.alloc (.map Gg clock)):=Go.Fg.Tr.push R e _ _ (by intro b q h;simp at h;omega)
 have QZ:pl.length=h.length:=R.len
 refine ⟨.map (some w.heap.size),.mref h.length 0,h++[QE .i64 c es],pl++[some (w.heap.size,0)],rfl,⟨rfl,rfl⟩,QT.El R e _ (Nat.le_refl _) QI ?_,?_,T,vO QI _⟩
 ·have hx:Hi Z (h++[QE .i64 c es]) (pl++[some (w.heap.size,0)]) (w.alloc (.map Gg clock)) (QE .i64 c es) w.heap.size 0:=
   ⟨rfl,Zz,Gg,clock,heap_alloc_new w _,hn,Z5,ZY.tr T,fun i e he=>⟨(Dt i e he).1,(Dt i e he).2.1.tr T,(Dt i e he).2.2.1.tr T,(Dt i e he).2.2.2.tr T⟩,Bm⟩
  exact hx
 ·exact .mref _ _ (QE .i64 c es) (some (w.heap.size,0)) w.heap.size (by simp) (by rw[← QZ];simp) ⟨by simp [QE,Kc,Kd.ty],rfl⟩ (Nat.le_refl _) (fun _=>rfl)
theorem QlW {S:Nat→Prop} {h:List Ob} {t:Nat} {T:List Qi} (R:Kf S h t T):QG Tryz.prog 60 h [.ptr t 0 0 0] (fun d h'=>d=.ptr (h.length+1) 0 0 0∧Kf (fun l=>h.length≤l) h' (h.length+1) T∧∃ g,h'=h++g∧g.length=2):=by
 obtain ⟨m,c,es,ht,hm,hT,_,_⟩:=R
 refine QW Qe 200 Tryz.func60 rfl Tryz.ntmps60 Tryz.results60 rfl fun base w pl hb=>?_
 have QV:=Qd ht
 simp only[go_sem,simprocAttr,Qa,ht,QV]
 refine Q5 hb Qip rfl ?_ (QlV hm) rfl fun d h hR=>?_
 ·simp only[go_sem,simprocAttr,Qa]
 obtain ⟨rfl,rfl⟩:=hR
 refine Qc hb ?_
 simp only[go_sem,simprocAttr,Qa]
 exact ⟨⟨h.length,c,es,Ve rfl,Kq rfl,hT,by show h.length≤_;omega,Nat.le_refl _⟩,_,rfl,rfl⟩
theorem JA.nil:JA []:=⟨TreeInv.nil,by simp,by simp,by simp,by simp⟩
theorem QlX {T:List Qi} (h:KH T) {x:Qi} (hn:Qr T x.iD=none):(Ke T x).length=T.length+1:=by
 rw[(AO x h).length_eq,List.length_cons]
 congr 1
 unfold KR
 rw[List.filter_eq_self.2]
 intro c hc
 have:=yo.1 hn c hc
 simpa using this
theorem QlY {T:List Qi} (h:KH T) {x y:Qi} (hy:Qr T x.iD=some y):(Ke T x).length≤T.length:=by
 rw[(AO x h).length_eq,List.length_cons]
 obtain ⟨h1,h2⟩:=(KQ h).1 hy
 have:(KR T x.iD).length<T.length:=by
  unfold KR
  refine Nat.lt_of_le_of_ne (List.length_filter_le _ _) fun e=>?_
  have:=(List.length_filter_eq_length_iff.1 e) y h1
  simp [h2] at this
 omega
section
variable {T:List Qi} (I:JA T)
include I
theorem JA.add {x:Qi} (h:jJ T x (up T x.parent).length=0):JA (Ke T x):=by
 unfold jJ at h
 by_cases h0:JH x=0
 case neg=>rw[if_pos h0] at h;exact absurd h h0
 rw[if_neg (by simpa using h0)] at h
 cases h1:Qr T x.iD with
 | some y=>rw[h1] at h;simp at h
 | none=>
  rw[h1,if_neg (by simp)] at h
  by_cases h2:T.length=64
  ·rw[if_pos h2] at h;cases h
  rw[if_neg h2] at h
  by_cases h3:(x.parent≠0∧(Qr T x.parent).isNone)∨((Qr T x.parent).getD default).leaf=true
  ·rw[if_pos h3] at h;cases h
  rw[if_neg h3] at h
  by_cases h4:1<QH x.ls∧VK T x.parent=false
  ·rw[if_pos h4] at h;cases h
  rw[if_neg h4] at h
  by_cases h5:(up T x.parent).length=16
  ·rw[if_pos h5] at h;cases h
  have QX:=right_id h0
  have hp:x.parent=0∨∃ d,Qr T x.parent=some d∧d.leaf=false:=by
   by_cases hp:x.parent=0
   ·exact .inl hp
   ·cases hf:Qr T x.parent with
    | none=>exact absurd (.inl ⟨hp,by rw[hf];rfl⟩) h3
    | some d=>
     refine .inr ⟨d,rfl,?_⟩
     rw[Bool.eq_false_iff]
     exact fun hl=>h3 (.inr (by rw[hf];exact hl))
  have I2:=I.toTreeInv.add h0 h1 (hp.elim .inl fun ⟨d,hd,_⟩=>.inr (by rw[hd];rfl)) h5
  refine ⟨I2,fun c hc=>?_,fun c hc V7=>?_,fun c hc hs V7=>?_,?_⟩
  ·rcases zI I.rising x hc with rfl | hc
   ·exact h0
   ·exact I.right c hc
  ·rcases zI I.rising x hc with rfl | hc
   ·rcases hp with hp | ⟨d,hd,hl⟩
    ·exact absurd hp V7
    ·exact ⟨d,by rw[zH I.rising,if_neg QX.2.2];exact hd,hl⟩
   ·obtain ⟨d,hd,hl⟩:=I.Xn c hc V7
    refine ⟨d,?_,hl⟩
    rw[zH I.rising,if_neg (fun e=>by rw[e,h1] at hd;cases hd)]
    exact hd
  ·rcases zI I.rising x hc with rfl | hc
   ·have ZT:VK T c.parent=true:=by
     rw[← Bool.not_eq_false];exact fun hf=>h4 ⟨hs,hf⟩
    unfold VK at ZT
    unfold Y6
    rw[zH I.rising,if_neg QX.2.2]
    rw[Bool.or_eq_true] at ZT
    rcases ZT with ZT | ZT
    ·exact absurd (by simpa using ZT) V7
    ·exact ZT
   ·have ZT:=I.LB c hc hs V7
    obtain ⟨d,hd,hl⟩:=I.Xn c hc V7
    unfold Y6 at ZT ⊢
    rw[zH I.rising,if_neg (fun e=>by rw[e,h1] at hd;cases hd)]
    exact ZT
  ·rw[QlX I.rising h1]
   have:=I.len
   omega
theorem JA.del {id:Int} (h:KI T id=[]):JA (KR T id):=by
 have I2:=I.toTreeInv.del h
 have JL:∀ c∈T,c.parent≠id:=fun c hc e=>by
  have:c.iD∈KI T id:=List.mem_map.2 ⟨c,List.mem_filter.2 ⟨hc,by simpa using e⟩,rfl⟩
  rw[h] at this;cases this
 refine ⟨I2,fun c hc=>I.right c (List.mem_filter.1 hc).1,fun c hc V7=>?_,fun c hc hs V7=>?_,?_⟩
 ·have hc:=(List.mem_filter.1 hc).1
  obtain ⟨d,hd,hl⟩:=I.Xn c hc V7
  exact ⟨d,by rw[FG I.rising,if_neg (JL c hc)];exact hd,hl⟩
 ·have hc:=(List.mem_filter.1 hc).1
  have:=I.LB c hc hs V7
  unfold Y6 at this ⊢
  rw[FG I.rising,if_neg (JL c hc)]
  exact this
 ·have:=List.length_filter_le (fun c:Qi=>c.iD != id) T
  have:=I.len
  unfold KR
  omega
theorem JA.set {x:Qi} (h:jL T x=0):JA (Ke T x):=by
 unfold jL at h
 by_cases h0:JH x=0
 case neg=>rw[if_pos h0] at h;exact absurd h h0
 rw[if_neg (by simpa using h0)] at h
 cases h1:Qr T x.iD with
 | none=>rw[h1,if_pos (by rfl)] at h;cases h
 | some y=>
  rw[h1,if_neg (by simp)] at h
  simp only[Option.getD_some] at h
  by_cases h2:x.parent≠y.parent∨x.leaf≠y.leaf
  ·rw[if_pos h2] at h;cases h
  rw[if_neg h2] at h
  have pE:x.parent=y.parent:=Classical.byContradiction fun e=>h2 (.inl e)
  have h2b:x.leaf=y.leaf:=Classical.byContradiction fun e=>h2 (.inr e)
  by_cases h3:(1<QH x.ls∧VK T x.parent=false)∨(¬ 1<QH x.ls∧(KI T x.iD).any (Y6 T)=true)
  ·rw[if_pos h3] at h;cases h
  have QX:=right_id h0
  have hym:=(KQ I.rising).1 h1
  have I2:=I.toTreeInv.set h0 h1 pE
  have qI:∀ p d,Qr T p=some d→∃ d',Qr (Ke T x) p=some d'∧d'.leaf=d.leaf:=fun p d hd=>by
   rw[zH I.rising]
   by_cases hp:p=x.iD
   ·rw[if_pos hp]
    rw[hp,h1] at hd;cases hd
    exact ⟨x,rfl,h2b⟩
   ·rw[if_neg hp];exact ⟨d,hd,rfl⟩
  refine ⟨I2,fun c hc=>?_,fun c hc V7=>?_,fun c hc hs V7=>?_,?_⟩
  ·rcases zI I.rising x hc with rfl | hc
   ·exact h0
   ·exact I.right c hc
  ·have:∃ d,Qr T c.parent=some d∧d.leaf=false:=by
    rcases zI I.rising x hc with rfl | hc
    ·rw[pE] at V7 ⊢
     exact I.Xn y hym.1 V7
    ·exact I.Xn c hc V7
   obtain ⟨d,hd,hl⟩:=this
   obtain ⟨d',h4,h5⟩:=qI _ d hd
   exact ⟨d',h4,by rw[h5,hl]⟩
  ·unfold Y6
   rw[zH I.rising]
   by_cases hp:c.parent=x.iD
   ·rw[if_pos hp]
    simp only[Option.getD_some,decide_eq_true_eq]
    refine Classical.byContradiction fun hx=>h3 (.inr ⟨hx,?_⟩)
    rcases zI I.rising x hc with rfl | hc
    ·exact absurd hs hx
    ·rw[List.any_eq_true]
     refine ⟨c.iD,List.mem_map.2 ⟨c,List.mem_filter.2 ⟨hc,by simpa using hp⟩,rfl⟩,?_⟩
     unfold Y6
     rw[(KQ I.rising).2 ⟨hc,rfl⟩]
     simpa using hs
   ·rw[if_neg hp]
    rcases zI I.rising x hc with rfl | hc
    ·have ZT:VK T c.parent=true:=by
      rw[← Bool.not_eq_false];exact fun hf=>h3 (.inl ⟨hs,hf⟩)
     unfold VK at ZT
     rw[Bool.or_eq_true] at ZT
     rcases ZT with ZT | ZT
     ·exact absurd (by simpa using ZT) V7
     ·exact ZT
    ·exact I.LB c hc hs V7
  ·have:=QlY I.rising h1
   have:=I.len
   omega
end
def ql (T:List Qi) (c:ZP):Int:=if c.kind=1 then jJ T c.cls (up T c.cls.parent).length else if c.kind=3 then jL T c.cls else if c.kind=2 then jK T c.cls.iD else 1
def jV (T:List Qi) (c:ZP):List Qi:=if ql T c=0 then (if c.kind=2 then KR T c.cls.iD else Ke T c.cls) else T
theorem JA.one {T:List Qi} (I:JA T) (c:ZP):JA (jV T c):=by
 unfold jV
 by_cases h:ql T c=0
 ·rw[if_pos h]
  unfold ql at h
  by_cases k1:c.kind=1
  ·rw[if_pos k1] at h
   rw[if_neg (by omega)]
   exact I.add h
  ·rw[if_neg k1] at h
   by_cases k3:c.kind=3
   ·rw[if_pos k3] at h
    rw[if_neg (by omega)]
    exact I.set h
   ·rw[if_neg k3] at h
    by_cases k2:c.kind=2
    ·rw[if_pos k2] at h ⊢
     unfold jK at h
     by_cases h1:(Qr T c.cls.iD).isNone=true
     ·rw[if_pos h1] at h;cases h
     ·rw[if_neg h1] at h
      by_cases h2:KI T c.cls.iD≠[]
      ·rw[if_pos h2] at h;cases h
      ·exact I.del (Classical.byContradiction h2)
    ·rw[if_neg k2] at h;cases h
 ·rw[if_neg h];exact I
theorem Kw.toS {S:Nat→Prop} {h h':List Ob} {t m:Nat} {L:List Qi} (A:Kw h t m L h') (st:S t) (sm:S m):Kf S h' t L∧Step S h h':=by
 obtain ⟨⟨c,es,h1,h2,h3⟩,hl,ho⟩:=A
 exact ⟨⟨m,c,es,h1,h2,h3,st,sm⟩,⟨fun l h4 h5=>ho l h4 (fun e=>h5 (e▸sm)),hl⟩⟩
section
variable {S:Nat→Prop} {h:List Ob} {t:Nat} {T:List Qi} (R:Kf S h t T) (I:JA T)
include R I
theorem Ql1 (x:Qi):QG Tryz.prog 183 h [.ptr t 0 0 0,Vf x] (fun d h'=>d=Qb (jJ T x (up T x.parent).length)∧Kf S h' t (if jJ T x (up T x.parent).length=0 then Ke T x else T)∧Step S h h'):=by
 obtain ⟨m,c,es,h1,h2,h3,h4,h5⟩:=R
 have:=I.len
 exact QG.mono (QjB h t m c h3 h1 h2 x 16 (by decide) (I.ends _)) fun d h' ⟨e,A⟩=>⟨e,A.toS h4 h5⟩
theorem Ql2 (x:Qi):QG Tryz.prog 184 h [.ptr t 0 0 0,Vf x] (fun d h'=>d=Qb (jL T x)∧Kf S h' t (if jL T x=0 then Ke T x else T)∧Step S h h'):=by
 obtain ⟨m,c,es,h1,h2,h3,h4,h5⟩:=R
 have:=I.len
 exact QG.mono (QjH h t m c h3 (by omega) h1 h2 x) fun d h' ⟨e,A⟩=>⟨e,A.toS h4 h5⟩
theorem Ql3 (id:Int):QG Tryz.prog 186 h [.ptr t 0 0 0,Qb id] (fun d h'=>d=Qb (jK T id)∧Kf S h' t (if jK T id=0 then KR T id else T)∧Step S h h'):=by
 obtain ⟨m,c,es,h1,h2,h3,h4,h5⟩:=R
 have:=I.len
 exact QG.mono (QjC h t m c h3 (by omega) h1 h2 id) fun d h' ⟨e,A⟩=>⟨e,A.toS h4 h5⟩
end
theorem Kf.app {S:Nat→Prop} {h:List Ob} {t:Nat} {T:List Qi} (R:Kf S h t T) (g:List Ob):Kf (fun l=>S l∧l<h.length) (h++g) t T:=R.step fun l hl hs=>⟨⟨hs,hl⟩,QU hl⟩
theorem Ql4 {S:Nat→Prop} {h:List Ob} {t tb:Nat} {T:List Qi} (R:Kf S h t T) (I:JA T) (x:Qi) (Q9:h[tb]? = some ⟨.one,0,1,1,fun _=>[.ptr t 0 0 0]⟩):QG Tryz.prog 185 h [Vf x,.ptr tb 0 0 0] (fun d h'=>d=Qb (jK T x.iD)∧Kf S h' t (if jK T x.iD=0 then KR T x.iD else T)∧Step S h h'):=by
 refine QW Qe 200 Tryz.func185 rfl Tryz.ntmps185 Tryz.results185 rfl fun base w pl hb=>?_
 have Y7:=Qd Q9
 simp only[go_sem,simprocAttr,Qa,Q9,Y7]
 refine Q5 hb Qiw rfl ?_ (Ql3 (R.app _) I x.iD) rfl fun d h hR=>?_
 ·simp only[go_sem,simprocAttr,Qa,Q9,Y7]
 obtain ⟨rfl,R6,s6⟩:=hR
 refine Qc hb ?_
 simp only[go_sem,simprocAttr,Qa,Q9,Y7]
 exact ⟨R6.step fun l _ hs=>⟨hs.1,rfl⟩,⟨fun l h1 h2=>(s6.keep l (by simp;omega) (fun h3=>h2 h3.1)).trans (QU h1),by have:=s6.len;simp at this;omega⟩⟩
theorem Ql5 {S:Nat→Prop} {h:List Ob} {t:Nat} {T:List Qi} (R:Kf S h t T) (I:JA T) (x:ZP):QG Tryz.prog 128 h [.ptr t 0 0 0,.agg x.cells] (fun d h'=>d=Qb (ql T x)∧Kf S h' t (jV T x)∧Step S h h'):=by
 have fin:∀ {g h6:List Ob} {T':List Qi},Kf (fun l=>S l∧l<h.length) h6 t T'→Step (fun l=>S l∧l<h.length) (h++g) h6→Kf S h6 t T'∧Step S h h6:=fun {g h6 T'} R6 s6=>
  ⟨R6.step fun l _ hs=>⟨hs.1,rfl⟩,⟨fun l h1 h2=>(s6.keep l (by simp;omega) (fun h3=>h2 h3.1)).trans (QU h1),by have:=s6.len;simp at this;omega⟩⟩
 unfold jV ql
 by_cases k1:x.kind=1
 ·have d1:(x.kind == 1)=true:=by simpa using k1
  simp only[if_pos k1,if_neg (show ¬ x.kind=2 by omega)]
  refine QW Qe 200 Tryz.func128 rfl Tryz.ntmps128 Tryz.results128 rfl fun base w pl hb=>?_
  simp only[go_sem,simprocAttr,Qa,d1]
  refine Q5 hb Qit rfl ?_ (Ql1 (R.app _) I x.cls) rfl fun d h hR=>?_
  ·simp only[go_sem,simprocAttr]
  obtain ⟨rfl,R6,s6⟩:=hR
  refine Qc hb ?_
  simp only[go_sem,simprocAttr]
  exact fin R6 s6
 ·have d1:(x.kind == 1)=false:=by simpa using k1
  simp only[if_neg k1]
  by_cases k3:x.kind=3
  ·have d3:(x.kind == 3)=true:=by simpa using k3
   simp only[if_pos k3,if_neg (show ¬ x.kind=2 by omega)]
   refine QW Qe 200 Tryz.func128 rfl Tryz.ntmps128 Tryz.results128 rfl fun base w pl hb=>?_
   simp only[go_sem,simprocAttr,Qa,d1,d3]
   refine Q5 hb Qiu rfl ?_ (Ql2 (R.app _) I x.cls) rfl fun d h hR=>?_
   ·simp only[go_sem,simprocAttr]
   obtain ⟨rfl,R6,s6⟩:=hR
   refine Qc hb ?_
   simp only[go_sem,simprocAttr]
   exact fin R6 s6
  ·have d3:(x.kind == 3)=false:=by simpa using k3
   simp only[if_neg k3]
   by_cases k2:x.kind=2
   ·have d2:(x.kind == 2)=true:=by simpa using k2
    simp only[if_pos k2]
    refine QW Qe 200 Tryz.func128 rfl Tryz.ntmps128 Tryz.results128 rfl fun base w pl hb=>?_
    simp only[go_sem,simprocAttr,Qa,d1,d2,d3]
    refine Q5 hb Qiv rfl ?_ (Ql4 (tb:=h.length) (R.app _) I x.cls (Kq rfl)) rfl fun d h hR=>?_
    ·simp only[go_sem,simprocAttr]
    obtain ⟨rfl,R6,s6⟩:=hR
    refine Qc hb ?_
    simp only[go_sem,simprocAttr]
    exact fin R6 s6
   ·have d2:(x.kind == 2)=false:=by simpa using k2
    simp only[if_neg k2]
    refine QW Qe 200 Tryz.func128 rfl Tryz.ntmps128 Tryz.results128 rfl fun base w pl hb=>?_
    simp only[go_sem,simprocAttr,Qa,d1,d2,d3]
    exact ⟨R.step fun l hl hs=>⟨hs,QU hl⟩,Step.app S h _⟩
end Go.Fg.X
namespace Go.Fg
open Go.RowKit (Below)
section
variable {P:Program} {L:Zd} {base nt:Nat} {s:St} {o:Oper} {t:TypeId} {x i:Operand}
theorem FX (hL:Zr P L) {v:Operand} (ho:o.op=.insert t x i v) {p:Prop} {h':List Ob} (h:xU L s.h t (Qp s.fr x) (Qp s.fr i) (Qp s.fr v)=some (p,h')) (hp:p):∀ (Z:Nat→Prop) pl a w,Rel Z base nt s pl a w→base≤w.heap.size→∃ v w' Qg,((execOp a.eval o).run P w=.ok (.value v) w'∨((execOp a.eval o).run P w=.ok .skip w'∧v=Go.undef))∧Tr s.h pl w h' Qg w'∧QT Z base h' Qg w'∧Qv Z h' Qg w' .undef v∧Below base w w'∧Xg w w':=by
 have h1:=UM (P:=P) (base:=base) (nt:=nt) (o:=⟨o.dst,.mapUpdate t x i v,o.type,o.pos,o.after,o.guard⟩) hL rfl h hp
 intro Z pl a w r hb
 obtain ⟨u,w',Qg,h2,h3⟩:=h1 Z pl a w r hb
 have e:execOp a.eval ⟨o.dst,.mapUpdate t x i v,o.type,o.pos,o.after,o.guard⟩=execOp a.eval o:=by simp [execOp,ho]
 rw[e] at h2
 exact ⟨u,w',Qg,h2,h3⟩
end
section
variable {P:Program} {base nt:Nat} {w0:Start} {Q:Exit→St→Prop} {k:List Item} {s:St} {X:Cx}
theorem Ql6 {L:Zd} (hL:Zr P L) (QI:base≤w0.w.heap.size) {K:St→Prop} {ty:TypeId} {pos:String} {after:Array Edge} {gd:Option (Nat × Bool)} {r:List (Bool × Oper × G)} {t:TypeId} {x i v:Operand} {p:Prop} {h':List Ob}
  (h:xU L s.h t (Qp s.fr x) (Qp s.fr i) (Qp s.fr v)=some (p,h')) (hp:p) (hk:AX P base nt w0 K r ⟨s.fr,h'⟩):AX P base nt w0 K ((false,⟨none,.insert t x i v,ty,pos,after,gd⟩,none)::r) s:=by
 simp only[AX,KP,WC]
 intro Z z pl a w rr b
 obtain ⟨u,w',Qg,QS,hT,hO,hv,hb,hC⟩:=FX (P:=P) (base:=base) (nt:=nt) (o:=⟨none,.insert t x i v,ty,pos,after,gd⟩) hL rfl h hp Z pl a w rr (Nat.le_trans QI b.1.size)
 unfold Oper.wp
 rcases QS with QS | ⟨QS,hu⟩
 ·rw[QS]
  simp only[Oper.upon_value]
  exact ⟨hC,.undef,_,Qg,u,hk,rr.zd hT hO u,b.step hT hb,hT,rfl⟩
 ·rw[QS]
  simp only[Oper.upon_skip]
  exact ⟨hC,.undef,_,Qg,_,hk,rr.zd hT hO _,b.step hT hb,hT,rfl⟩
theorem Ql7 {L:Zd} (hL:Zr P L) (QI:base≤w0.w.heap.size) {K:St→Prop} {ty0:TypeId} {pos:String} {after:Array Edge} {gd:Option (Nat × Bool)} {r:List (Bool × Oper × G)} {t kt et a b a' b':Nat} {zt zt':List Value} {x i v:Operand} {q:IntKind} {l c:Nat} {es:List QK} {n:Int}
  (ht:ty L t=some ⟨.map kt et,a,b,zt⟩) (Yn:ty L kt=some ⟨.int q,a',b',zt'⟩) (hx:Qp s.fr x=.mref l 0) (hi:Qp s.fr i=.raw (.int q n)) (ho:s.h[l]? = some (QE q c es))
  (hk:AX P base nt w0 K r ⟨s.fr,s.h.set l (J5 q c es n (Qp s.fr v))⟩):AX P base nt w0 K ((false,⟨none,.insert t x i v,ty0,pos,after,gd⟩,none)::r) s:=by
 refine Ql6 hL QI (h':=s.h.set l (J5 q c es n (Qp s.fr v))) (p:=IsMap q (QE q c es)∧q=q∧0=0∧(QE q c es).kd.ro=false) ?_ ⟨?_,rfl,rfl,rfl⟩ hk
 ·rw[hx,hi]
  simp only[xU,ht,Yn,ho]
  rw[N9,Oa]
 ·exact (UH q c es).mpr trivial
theorem wX (s1:St) {id:Nat} {ops:Array Oper} (hX:WA P X) (hb:base≤w0.w.heap.size) (hm:P.follows .mixedOrders=true) (l:List (Nat × Bool)) (R:List Nat) (hB:wk [] X.L ops l R=true) (hU:wj ops s.fr=true)
  (yi:∀ s,Ql w0 s s1→Qs P base nt w0 Q k .normal s) (h:JO P base w0 X nt (x8 P base w0 X nt (fun s=>Ql w0 s s1) R.length (XS [] ops R) (l.map (·.1))) (J7 [] ops l) s):Qs P base nt w0 Q (.code (.region id ops true)::k) .normal s:=by
 have hR:R.Nodup:=by
  simp only[wk,Bool.and_eq_true] at hB
  exact (IK hB.1.2).1
 exact aJ hX.L hb hm l R hB hU (AX.mono (fun s hs=>OL hX hb (fun s hs=>yi s hs) _ _ _ s hR hs) _ _ (wm hX hb _ _ h))
end
section
variable {P:Program} {L:Zd} {base nt:Nat} {w0:Start} {Q:Exit→St→Prop}
end
end Go.Fg
namespace Go.Fg
section
variable {P:Program} {base nt:Nat} {w0:Start} {Q:Exit→St→Prop} {k:List Item} {s:St}
def Mg (P:Program) (base nt:Nat) (w0:Start) (Q:Exit→St→Prop) (k:List Item) (T:St→Prop):Exit→St→Prop
 | .normal,s=>∃ s1,T s1∧Ql w0 s s1
 | e,s=>Qs P base nt w0 Q k e s
variable {T:St→Prop}
@[go_sem] theorem Qtp:Mg P base nt w0 Q k T .normal s=∃ s1,T s1∧Ql w0 s s1:=Jx rfl
@[go_sem] theorem Qtq {j:Nat}:Mg P base nt w0 Q k T (.exit j) s=Qs P base nt w0 Q k (.exit j) s:=Jx rfl
@[go_sem] theorem Qtr:Mg P base nt w0 Q k T .ret s=Qs P base nt w0 Q k .ret s:=Jx rfl
theorem Mh {x:Item} {c:Code} (T:St→Prop) (h1:Qs P base nt w0 (Mg P base nt w0 Q (.code c::k) T) [x] .normal s) (h2:∀ s1,T s1→Qs P base nt w0 Q (.code c::k) .normal s1):Qs P base nt w0 Q (x::.code c::k) .normal s:=by
 have key:∀ s',(∃ s1,T s1∧Ql w0 s' s1)→Qs P base nt w0 Q (.code c::k) .normal s':=fun s' ⟨s1,ht,hw⟩=>x5 hw (h2 s1 ht)
 cases x with
 | code x=>
  simp only[Qs] at h1
  show A P base nt w0 x _ s
  refine h1.mono fun e s' he=>?_
  cases e with
  | normal=>exact key _ he
  | _=>exact he
 | ops l=>
  simp only[Qs] at h1
  show AG P base nt w0 l _ s
  intro Z z pl a w r b
  refine Lp (fun e a' w' ⟨s',Qg,hs,r',b'⟩=>⟨s',Qg,?_,r',b'⟩) _ _ _ (h1 Z z pl a w r b)
  cases e with
  | normal=>exact key _ hs
  | _=>exact hs
 | inBlock id=>simp only[Qs] at h1 ⊢;exact key _ h1
 | inScope=>simp only[Qs] at h1 ⊢;exact key _ h1
end
def Gh:List Item→Bool
 | .inBlock _::k=>Gh k
 | .inScope::k=>Gh k
 | .code _::_=>true
 | .ops _::_=>true
 | []=>false
theorem jW {P:Program} {base nt:Nat} {w0:Start} {Q:Exit→St→Prop} {s s':St} (h:Ql w0 s s'):∀ {k:List Item},Gh k=true→Qs P base nt w0 Q k .normal s'→Qs P base nt w0 Q k .normal s
 | [],hc,_=>by cases hc
 | .code c::k,_,hk=>x5 h hk
 | .ops l::k,_,hk=>IP h hk
 | .inBlock n::k,hc,hk=>by
  rw[Gh] at hc
  simp only[Qs] at hk ⊢
  exact jW h hc hk
 | .inScope::k,hc,hk=>by
  rw[Gh] at hc
  simp only[Qs] at hk ⊢
  exact jW h hc hk
end Go.Fg
namespace Go.Fg.X
open Go.Proofs Go.Fg
@[go_sem] def uI (n:Int):D:=.raw (.int .u64 n)
def Qn (x y:Int):Bool:=decide (x<y)
def jX (d:Array Int):Nat→List D:=fun i=>[uI d[i]!]
@[go_sem] theorem Qts (d:Array Int) (i:Nat):jX d i=[uI d[i]!]:=rfl
@[go_sem] def QO (g:Nat) (d:Array Int):Ob:=⟨.arr,g,1,d.size,jX d⟩
structure Qtt (h h':List Ob) (lo:Nat) (o:Ob):Prop where
 at_:h'[lo]? = some o
 JI:∀ l,l<h.length→l≠lo→h'[l]? = h[l]?
 len:h.length≤h'.length
theorem Ql9 (x:Int):Q7 Tryz.prog 307 [uI x] (Qm (QN false)):=by
 refine Zk 0 Qe 200 Tryz.func307 rfl Tryz.ntmps307 Tryz.results307 rfl fun base w hb=>?_
 simp only[go_sem,simprocAttr]
 simp only[go_sem,simprocAttr,bne_self_eq_false]
theorem YB (x y:Int):Q7 Tryz.prog 299 [uI x,uI y] (Qm (QN (Qn x y))):=by
 refine Zk 0 Qe 200 Tryz.func299 rfl Tryz.ntmps299 Tryz.results299 rfl fun base w hb=>?_
 simp only[go_sem,simprocAttr]
 refine QM hb Qi3 rfl ?_ (Ql9 x) (Qm.flat rfl) rfl fun d h hR=>?_
 ·simp only[go_sem,simprocAttr,Go.undef]
 obtain ⟨rfl,rfl⟩:=hR
 refine Qc hb ?_
 simp only[go_sem,simprocAttr,Go.undef]
 unfold Qn
 rfl
theorem YC {h:List Ob} {l:Nat} {o:Ob} (e:h[l]? = some o):h.set l o=h:=List.ext_getElem? fun i=>by
 by_cases c:l=i
 ·subst c;rw[Qw (Qd e),e]
 ·rw[Qt c]
@[go_sem] def Dv (n:Nat):Ob:=⟨.one,0,1,1,fun _=>[Qb n]⟩
section
variable {h:List Ob} {lo g:Nat} {d:Array Int} (ho:h[lo]? = some (QO g d))
include ho
theorem RQ {sp:Nat} (s:Nat) (Xy:h[sp]? = some (Dv s)) (QD:sp≠lo) (a b:Nat) (ha:a<d.size) (Q9:b<d.size) (hs:s<1000000) :
  QG Tryz.prog 308 h [.ref lo g 0 d.size,Qb a,Qb b,.ptr sp 0 0 0] (fun dd h'=>dd=.tup [Qb (Sort.order2 Qn d a b s).1,Qb (Sort.order2 Qn d a b s).2.1]∧h'=h.set sp (Dv (Sort.order2 Qn d a b s).2.2)):=by
 have Zl:=KG (show s<4611686018427387904 by omega)
 unfold Sort.order2
 refine QW Qe 200 Tryz.func308 rfl Tryz.ntmps308 Tryz.results308 rfl fun base w pl hb=>?_
 have Qf:=Qd ho
 have YD:=Qd Xy
 simp only[go_sem,simprocAttr,Qa,ho,Qf,Xy,YD]
 refine QA Qe hb 200 mixed [(0,true),(1,true),(2,true),(3,true),(4,true),(5,true),(6,true),(7,true),(8,false)] (by kernel_rfl) (by kernel_rfl) ?_
 simp only[go_sem,simprocAttr,ho,Qf,ha,Q9]
 refine Zo hb Yt rfl ?_ (YB d[b]! d[a]!) (Qm.flat rfl) rfl fun d h hR=>?_
 ·simp only[go_sem,simprocAttr]
 obtain ⟨rfl,rfl⟩:=hR
 refine QF hb ?_
 simp only[go_sem,simprocAttr]
 cases hl:Qn d[b]! d[a]!
 ·simp only[go_sem,simprocAttr,hl]
  exact (YC Xy).symm
 ·simp only[go_sem,simprocAttr,hl,Xy,YD,Zl]
theorem pF (a b s:Nat) (ha:a<d.size) (hb:b<d.size):(Sort.order2 Qn d a b s).1<d.size∧(Sort.order2 Qn d a b s).2.1<d.size∧(Sort.order2 Qn d a b s).2.2≤s+1:=by
 have _hu:=ho
 unfold Sort.order2
 split <;> simp_all
theorem RR {sp:Nat} (s:Nat) (Xy:h[sp]? = some (Dv s)) (QD:sp≠lo) (a b c:Nat) (ha:a<d.size) (Q9:b<d.size) (CM:c<d.size) (hs:s<900000) :
  QG Tryz.prog 306 h [.ref lo g 0 d.size,Qb a,Qb b,Qb c,.ptr sp 0 0 0] (fun dd h'=>dd=Qb (Sort.median Qn d a b c s).1∧h'=h.set sp (Dv (Sort.median Qn d a b c s).2)):=by
 have q1:=pF ho a b s ha Q9
 have q2:=pF ho (Sort.order2 Qn d a b s).2.1 c (Sort.order2 Qn d a b s).2.2 q1.2.1 CM
 have YD:=Qd Xy
 have g1:∀ o,(h.set sp o)[lo]? = some (QO g d):=fun o=>(Qt QD).trans ho
 have g2:∀ o,(h.set sp o)[sp]? = some o:=fun o=>Qw YD
 unfold Sort.median
 refine QW Qe 200 Tryz.func306 rfl Tryz.ntmps306 Tryz.results306 rfl fun base w pl hb=>?_
 have Qf:=Qd ho
 have YD:=Qd Xy
 simp only[go_sem,simprocAttr,Qa,ho,Qf,Xy,YD]
 refine Q5 hb Pg rfl ?_ (RQ ho s Xy QD a b ha Q9 (by omega)) rfl fun d h hR=>?_
 ·simp only[go_sem,simprocAttr]
 obtain ⟨rfl,rfl⟩:=hR
 refine Qc hb ?_
 simp only[go_sem,simprocAttr]
 refine Q5 hb Pg rfl ?_ (RQ (g1 _) _ (g2 _) QD _ c q1.2.1 CM (by omega)) rfl fun d h hR=>?_
 ·simp only[go_sem,simprocAttr,List.set_set]
 obtain ⟨rfl,rfl⟩:=hR
 refine Qc hb ?_
 simp only[go_sem,simprocAttr,List.set_set]
 refine Q5 hb Pg rfl ?_ (RQ (g1 _) _ (g2 _) QD _ _ q1.1 q2.1 (by omega)) rfl fun d h hR=>?_
 ·simp only[go_sem,simprocAttr,List.set_set]
 obtain ⟨rfl,rfl⟩:=hR
 refine Qc hb ?_
 simp only[go_sem,simprocAttr,List.set_set]
theorem RS {sp:Nat} (s:Nat) (Xy:h[sp]? = some (Dv s)) (QD:sp≠lo) (a:Nat) (ha:1≤a) (Q9:a+1<d.size) (hs:s<900000) (hz:d.size<1000000000) :
  QG Tryz.prog 305 h [.ref lo g 0 d.size,Qb a,.ptr sp 0 0 0] (fun dd h'=>dd=Qb (Sort.medianAdjacent Qn d a s).1∧h'=h.set sp (Dv (Sort.medianAdjacent Qn d a s).2)):=by
 have e1:IntKind.i64.wrap ((a:Int) - 1)=((a - 1:Nat):Int):=by rw[wrap64 (by omega) (by omega)];omega
 have e2:IntKind.i64.wrap ((a:Int)+1)=((a+1:Nat):Int):=by rw[wrap64 (by omega) (by omega)];omega
 unfold Sort.medianAdjacent
 refine QW Qe 200 Tryz.func305 rfl Tryz.ntmps305 Tryz.results305 rfl fun base w pl hb=>?_
 have Qf:=Qd ho
 have YD:=Qd Xy
 simp only[go_sem,simprocAttr,Qa,ho,Qf,Xy,YD,e1,e2]
 refine Q5 hb Pf rfl ?_ (RR ho s Xy QD (a - 1) a (a+1) (by omega) (by omega) (by omega) hs) rfl fun d h hR=>?_
 ·simp only[go_sem,simprocAttr]
 obtain ⟨rfl,rfl⟩:=hR
 refine Qc hb ?_
 simp only[go_sem,simprocAttr]
end
theorem RU {d:Array Int} (a b c s:Nat) (ha:a<d.size) (hb:b<d.size) (hc:c<d.size):(Sort.median Qn d a b c s).1<d.size∧(Sort.median Qn d a b c s).2≤s+3:=by
 unfold Sort.median Sort.order2
 dsimp only
 repeat' split
 all_goals simp_all
def wY:Sort.Hint→Nat
 | .unknown=>0
 | .increasing=>1
 | .decreasing=>2
def RV (r:Nat × Nat):Nat × Sort.Hint:=(r.1,if r.2=0 then .increasing else if r.2=12 then .decreasing else .unknown)
section
variable (d:Array Int) (a b:Nat)
def Z4 (k:Nat):Nat:=a+(b - a) / 4*k
def wZ:Nat × Nat:=Sort.medianAdjacent Qn d (Z4 a b 1) 0
def w6:Nat × Nat:=Sort.medianAdjacent Qn d (Z4 a b 2) (wZ d a b).2
def Bn:Nat × Nat:=Sort.medianAdjacent Qn d (Z4 a b 3) (w6 d a b).2
def pG:Nat × Nat:=Sort.median Qn d (wZ d a b).1 (w6 d a b).1 (Bn d a b).1 (Bn d a b).2
def pH:Nat × Nat:=Sort.median Qn d (Z4 a b 1) (Z4 a b 2) (Z4 a b 3) 0
def pI:Nat × Nat:=if b - a ≥ 8 then (if b - a ≥ 50 then pG d a b else pH d a b) else (Z4 a b 2,0)
theorem Qma:Sort.choosePivot Qn d a b=RV (pI d a b):=rfl
end
section
variable {h:List Ob} {lo g:Nat} {d:Array Int} (ho:h[lo]? = some (QO g d))
include ho
theorem Qmb (a b:Nat) (JW:a<b) (Q9:b≤d.size) (hz:d.size<1000000000) :
  QG Tryz.prog 296 h [.ref lo g 0 d.size,Qb a,Qb b] (fun dd h'=>dd=.tup [Qb (Sort.choosePivot Qn d a b).1,Qb (wY (Sort.choosePivot Qn d a b).2)]∧∃ t,h'=h++t):=by
 have e0:IntKind.i64.wrap ((b:Int) - a)=((b - a:Nat):Int):=by rw[wrap64 (by omega) (by omega)];omega
 have w0:∀ n:Nat,n<1000000000→IntKind.i64.wrap (n:Int)=n:=fun n hn=>wrap64 (by omega) (by omega)
 have e1:IntKind.i64.wrap (((b - a) / 4:Nat)*(1:Int))=(((b - a) / 4*1:Nat):Int):=by rw[wrap64 (by omega) (by omega)];omega
 have e2:IntKind.i64.wrap (((b - a) / 4:Nat)*(2:Int))=(((b - a) / 4*2:Nat):Int):=by rw[wrap64 (by omega) (by omega)];omega
 have e3:IntKind.i64.wrap (((b - a) / 4:Nat)*(3:Int))=(((b - a) / 4*3:Nat):Int):=by rw[wrap64 (by omega) (by omega)];omega
 have f1:IntKind.i64.wrap ((a:Int)+((b - a) / 4*1:Nat))=((Z4 a b 1:Nat):Int):=by unfold Z4;rw[wrap64 (by omega) (by omega)];omega
 have f2:IntKind.i64.wrap ((a:Int)+((b - a) / 4*2:Nat))=((Z4 a b 2:Nat):Int):=by unfold Z4;rw[wrap64 (by omega) (by omega)];omega
 have f3:IntKind.i64.wrap ((a:Int)+((b - a) / 4*3:Nat))=((Z4 a b 3:Nat):Int):=by unfold Z4;rw[wrap64 (by omega) (by omega)];omega
 have f0:IntKind.i64.wrap (((b - a:Nat):Int).tdiv 4)=(((b - a) / 4:Nat):Int):=by rw[show ((b - a:Nat):Int).tdiv 4=(((b - a) / 4:Nat):Int) from rfl,wrap64 (by omega) (by omega)]
 refine QW Qe 200 Tryz.func296 rfl Tryz.ntmps296 Tryz.results296 rfl fun base w pl hb=>?_
 have Qf:=Qd ho
 simp only[go_sem,simprocAttr,Qa,ho,Qf,e0,f0,e1,e2,e3,f1,f2,f3]
 have g1:∀ o:Ob,(h++[o])[lo]? = some (QO g d):=fun o=>by rw[List.getElem?_append_left Qf];exact ho
 have g2:∀ o:Ob,(h++[o])[h.length]? = some o:=fun o=>by simp
 have g3:∀ o o':Ob,(h++[o]).set h.length o'=h++[o']:=fun o o'=>by rw[OP rfl];rfl
 have QD:h.length≠lo:=by omega
 rw[Qma]
 unfold pI
 by_cases c8:b - a ≥ 8
 ·rw[if_pos c8]
  have d8:decide ((8:Int)≤(b - a:Nat))=true:=decide_eq_true (by omega)
  by_cases Gi:b - a ≥ 50
  ·rw[if_pos Gi]
   have d50:decide ((50:Int)≤(b - a:Nat))=true:=decide_eq_true (by omega)
   simp only[go_sem,simprocAttr,d8,d50]
   have q1:(wZ d a b).1<d.size∧(wZ d a b).2≤3:=by unfold wZ;exact RU _ _ _ _ (by unfold Z4;omega) (by unfold Z4;omega) (by unfold Z4;omega)
   have q2:(w6 d a b).1<d.size∧(w6 d a b).2≤(wZ d a b).2+3:=by unfold w6;exact RU _ _ _ _ (by unfold Z4;omega) (by unfold Z4;omega) (by unfold Z4;omega)
   have q3:(Bn d a b).1<d.size∧(Bn d a b).2≤(w6 d a b).2+3:=by unfold Bn;exact RU _ _ _ _ (by unfold Z4;omega) (by unfold Z4;omega) (by unfold Z4;omega)
   refine Q5 hb Pe rfl ?_ (RS (g1 _) 0 (g2 _) QD (Z4 a b 1) (by unfold Z4;omega) (by unfold Z4;omega) (by omega) hz) rfl fun d h hR=>?_
   ·simp only[go_sem,simprocAttr,g3]
   obtain ⟨rfl,rfl⟩:=hR
   refine Qc hb ?_
   simp only[go_sem,simprocAttr,g3]
   refine Q5 hb Pe rfl ?_ (RS (g1 _) (wZ d a b).2 (g2 _) QD (Z4 a b 2) (by unfold Z4;omega) (by unfold Z4;omega) (by omega) hz) rfl fun d h hR=>?_
   ·simp only[go_sem,simprocAttr,g3]
   obtain ⟨rfl,rfl⟩:=hR
   refine Qc hb ?_
   simp only[go_sem,simprocAttr,g3]
   refine Q5 hb Pe rfl ?_ (RS (g1 _) (w6 d a b).2 (g2 _) QD (Z4 a b 3) (by unfold Z4;omega) (by unfold Z4;omega) (by omega) hz) rfl fun d h hR=>?_
   ·simp only[go_sem,simprocAttr,g3]
   obtain ⟨rfl,rfl⟩:=hR
   refine Qc hb ?_
   simp only[go_sem,simprocAttr,g3]
   refine Q5 hb Pf rfl ?_ (RR (g1 _) (Bn d a b).2 (g2 _) QD (Sort.medianAdjacent Qn d (Z4 a b 1) 0).1 (Sort.medianAdjacent Qn d (Z4 a b 2) (wZ d a b).2).1 (Sort.medianAdjacent Qn d (Z4 a b 3) (w6 d a b).2).1 q1.1 q2.1 q3.1 (by omega)) rfl fun d h hR=>?_
   ·simp only[go_sem,simprocAttr,g3]
   obtain ⟨rfl,rfl⟩:=hR
   refine Qc hb ?_
   simp only[go_sem,simprocAttr,g3]
   generalize hr:Sort.median Qn d (Sort.medianAdjacent Qn d (Z4 a b 1) 0).1 (Sort.medianAdjacent Qn d (Z4 a b 2) (wZ d a b).2).1 (Sort.medianAdjacent Qn d (Z4 a b 3) (w6 d a b).2).1 (Bn d a b).2=r
   have RW:pG d a b=r:=hr
   rw[RW]
   simp only[go_sem,simprocAttr,g2]
   unfold RV
   by_cases z0:r.2=0
   ·have z1:((r.2:Int) == 0)=true:=by rw[z0];rfl
    simp only[go_sem,simprocAttr,z1,z0]
    exact ⟨rfl,_,rfl⟩
   ·have z1:((r.2:Int) == 0)=false:=beq_eq_false_iff_ne.mpr (by omega)
    by_cases z12:r.2=12
    ·have z2:((r.2:Int) == 12)=true:=by rw[z12];rfl
     simp only[go_sem,simprocAttr,z1,z2,z0,z12]
     exact ⟨rfl,_,rfl⟩
    ·have z2:((r.2:Int) == 12)=false:=beq_eq_false_iff_ne.mpr (by omega)
     simp only[go_sem,simprocAttr,z1,z2,z0,z12]
     exact ⟨rfl,_,rfl⟩
  ·rw[if_neg Gi]
   have d50:decide ((50:Int)≤(b - a:Nat))=false:=decide_eq_false (by omega)
   simp only[go_sem,simprocAttr,d8,d50]
   refine Q5 hb Pf rfl ?_ (RR (g1 _) 0 (g2 _) QD (Z4 a b 1) (Z4 a b 2) (Z4 a b 3) (by unfold Z4;omega) (by unfold Z4;omega) (by unfold Z4;omega) (by omega)) rfl fun d h hR=>?_
   ·simp only[go_sem,simprocAttr,g3]
   obtain ⟨rfl,rfl⟩:=hR
   refine Qc hb ?_
   simp only[go_sem,simprocAttr,g3]
   generalize hr:Sort.median Qn d (Z4 a b 1) (Z4 a b 2) (Z4 a b 3) 0=r
   have RW:pH d a b=r:=hr
   rw[RW]
   simp only[go_sem,simprocAttr,g2]
   unfold RV
   by_cases z0:r.2=0
   ·have z1:((r.2:Int) == 0)=true:=by rw[z0];rfl
    simp only[go_sem,simprocAttr,z1,z0]
    exact ⟨rfl,_,rfl⟩
   ·have z1:((r.2:Int) == 0)=false:=beq_eq_false_iff_ne.mpr (by omega)
    by_cases z12:r.2=12
    ·have z2:((r.2:Int) == 12)=true:=by rw[z12];rfl
     simp only[go_sem,simprocAttr,z1,z2,z0,z12]
     exact ⟨rfl,_,rfl⟩
    ·have z2:((r.2:Int) == 12)=false:=beq_eq_false_iff_ne.mpr (by omega)
     simp only[go_sem,simprocAttr,z1,z2,z0,z12]
     exact ⟨rfl,_,rfl⟩
 ·rw[if_neg c8]
  have d8:decide ((8:Int)≤(b - a:Nat))=false:=decide_eq_false (by omega)
  simp only[go_sem,simprocAttr,d8,g2]
  exact ⟨rfl,_,rfl⟩
end
theorem X9 {h:List Ob} {lo g:Nat} {d:Array Int} (hl:lo<h.length):(h.set lo (QO g d))[lo]? = some (QO g d):=Qw hl
theorem swp_size (d:Array Int) (i j:Nat):(Sort.swp d i j).size=d.size:=by simp [Sort.swp]
theorem Xz (c:Bool) (x y:D):List.drop 1 (bif c then [x] else [y])=[]:=by cases c <;> rfl
theorem XA (g:Nat) (d:Array Int) (i j n:Nat) (hn:d.size=n) (hi:i<n) (hj:j<n) :
  (⟨.arr,g,1,n,fun k=>bif k == j then [.raw (.int .u64 d[i]!)] else bif k == i then [.raw (.int .u64 d[j]!)] else [.raw (.int .u64 d[k]!)]⟩:Ob)=QO g (Sort.swp d i j):=by
 subst hn
 unfold QO
 congr 1
 ·exact (swp_size d i j).symm
 ·funext k
  unfold jX uI Sort.swp
  by_cases k1:k=j
  ·subst k1
   have e1:(k == k)=true:=beq_self_eq_true k
   by_cases k2:k=i
   ·subst k2;simp [hi]
   ·simp [hi,hj,k2,Ne.symm k2]
  ·by_cases k2:k=i
   ·subst k2
    have e1:(k == j)=false:=beq_eq_false_iff_ne.mpr k1
    simp [hi,hj,k1,Ne.symm k1,e1]
   ·have e1:(k == j)=false:=beq_eq_false_iff_ne.mpr k1
    have e2:(k == i)=false:=beq_eq_false_iff_ne.mpr k2
    rw[e1,e2]
    by_cases k3:k<d.size
    ·simp [k1,k2,k3,Ne.symm k1,Ne.symm k2,Array.getElem_setIfInBounds]
    ·simp [k1,k2,k3]
section
variable {h:List Ob} {lo g:Nat} {d:Array Int} (ho:h[lo]? = some (QO g d))
include ho
theorem Qmc (a b:Nat) (JW:a<b) (Q9:b≤d.size) (hz:d.size<1000000000) :
  QG Tryz.prog 297 h [.ref lo g 0 d.size,Qb a,Qb b] (fun dd h'=>dd=.tup []∧h'=h.set lo (QO g (Sort.reverseRange d a b))):=by
 have e0:IntKind.i64.wrap ((b:Int) - 1)=((b - 1:Nat):Int):=by rw[wrap64 (by omega) (by omega)];omega
 refine QW Qe 200 Tryz.func297 rfl Tryz.ntmps297 Tryz.results297 rfl fun base w pl hb=>?_
 have Qf:=Qd ho
 simp only[go_sem,simprocAttr,Qa,ho,Qf,e0]
 refine ZB (fun k st=>∃ d':Array Int,d'.size=d.size∧Sort.reverseLoop (a+k) (b - 1 - k) d'=Sort.reverseRange d a b∧a+k≤b - k∧st=⟨[(0,.ref lo g 0 d.size),(6,Qb (a+k:Nat)),(7,Qb (b - 1 - k:Nat))],h.set lo (QO g d')⟩) d.size (s0:=⟨[(0,.ref lo g 0 d.size),(6,Qb (a+0:Nat)),(7,Qb (b - 1 - 0:Nat))],h.set lo (QO g d)⟩) ?_ ⟨d,rfl,rfl,by omega,rfl⟩ ?_
 ·rw[YC ho]
  exact Ql.frame (by simp only[go_sem,simprocAttr,Nat.sub_zero])
 rintro k _ hk ⟨d',hs,hd,hi,rfl⟩
 have hl:=X9 (g:=g) (d:=d') Qf
 generalize hH:h.set lo (QO g d')=H at hl
 have CK:=Qd hl
 by_cases c:a+k<b - 1 - k
 ·have c1:decide (a+k<b - 1 - k)=true:=decide_eq_true c
  have c2:a+k<d.size:=by omega
  have c3:b - 1 - k<d.size:=by omega
  refine Qc hb ?_
  simp only[go_sem,simprocAttr,Qa,hl,CK,c1]
  refine QA Qe hb 200 mixed [(0,true),(1,true),(2,true),(3,true),(4,true),(5,true),(6,true),(7,true),(8,true),(9,true),(10,true),(11,true),(12,true),(13,false),(14,true),(15,false)] (by kernel_rfl) (by kernel_rfl) ?_
  simp only[go_sem,simprocAttr,Qa,hl,CK,hs,c2,c3,Qw CK,List.set_set,Xz]
  have v1:IntKind.i64.wrap (((a+k:Nat):Int)+1)=((a+(k+1):Nat):Int):=by rw[wrap64 (by omega) (by omega)];omega
  have v2:IntKind.i64.wrap (((b - 1 - k:Nat):Int) - 1)=((b - 1 - (k+1):Nat):Int):=by rw[wrap64 (by omega) (by omega)];omega
  rw[XA g d' _ _ _ hs c2 c3,v1,v2]
  have Jz:Sort.reverseLoop (a+(k+1)) (b - 1 - (k+1)) (Sort.swp d' (a+k) (b - 1 - k))=Sort.reverseRange d a b:=by
   rw[← hd]
   conv=>rhs;rw[Sort.reverseLoop,if_pos c]
   congr 1
  refine ⟨by omega,_,?_,Sort.swp d' (a+k) (b - 1 - k),by rw[swp_size,hs],Jz,by omega,rfl⟩
  rw[← hH,List.set_set]
  exact Ql.frame (by simp only[go_sem,simprocAttr])
 ·have c1:decide (a+k<b - 1 - k)=false:=decide_eq_false c
  refine Qc hb ?_
  simp only[go_sem,simprocAttr,Qa,hl,CK,c1]
  rw[Sort.reverseLoop,if_neg c] at hd
  subst hH
  exact congrArg (fun x=>h.set lo (QO g x)) hd
end
theorem pJ (a:Nat):∀ (j:Nat) (d:Array Int),(Sort.insInner Qn a j d).size=d.size
 | 0,d=>rfl
 | j+1,d=>by rw[Sort.insInner];split;rw[pJ a j,swp_size];rfl
section
variable {h:List Ob} {lo g:Nat} {d:Array Int} (ho:h[lo]? = some (QO g d))
include ho
theorem Qmd (a b:Nat) (JW:a≤b) (Q9:b≤d.size) (hz:d.size<1000000000) :
  QG Tryz.prog 293 h [.ref lo g 0 d.size,Qb a,Qb b] (fun dd h'=>dd=.tup []∧h'=h.set lo (QO g (Sort.insertionSort Qn d a b))):=by
 have e0:IntKind.i64.wrap ((a:Int)+1)=((a+1:Nat):Int):=by rw[wrap64 (by omega) (by omega)];omega
 refine QW Qe 200 Tryz.func293 rfl Tryz.ntmps293 Tryz.results293 rfl fun base w pl hb=>?_
 have Qf:=Qd ho
 simp only[go_sem,simprocAttr,Qa,ho,Qf,e0]
 refine ZB (fun k st=>∃ d':Array Int,d'.size=d.size∧Sort.insOuter Qn a b (a+1+k) d'=Sort.insertionSort Qn d a b∧a+1+k≤b+1∧st=⟨[(0,.ref lo g 0 d.size),(1,Qb a),(2,Qb b),(6,Qb (a+1+k:Nat))],h.set lo (QO g d')⟩) d.size (s0:=⟨[(0,.ref lo g 0 d.size),(1,Qb a),(2,Qb b),(6,Qb (a+1+0:Nat))],h.set lo (QO g d)⟩) ?_ ⟨d,rfl,rfl,by omega,rfl⟩ ?_
 ·rw[YC ho]
  exact Ql.frame (by simp only[go_sem,simprocAttr])
 rintro k _ hk ⟨d',hs,hd,hi,rfl⟩
 have hl:=X9 (g:=g) (d:=d') Qf
 by_cases c:a+1+k<b
 ·have c1:decide (a+1+k<b)=true:=decide_eq_true c
  refine Qc hb ?_
  simp only[go_sem,simprocAttr,Qa,hl,c1]
  refine ZB (fun m st=>∃ (d1:Array Int) (j:Nat),d1.size=d.size∧j+m=a+1+k∧Sort.insInner Qn a j d1=Sort.insInner Qn a (a+1+k) d'∧a≤j∧st=⟨[(0,.ref lo g 0 d.size),(1,Qb a),(2,Qb b),(6,Qb (a+1+k:Nat)),(7,Qb j)],h.set lo (QO g d1)⟩) (a+1+k) (s0:=⟨[(0,.ref lo g 0 d.size),(1,Qb a),(2,Qb b),(6,Qb (a+1+k:Nat)),(7,Qb (a+1+k:Nat))],h.set lo (QO g d')⟩) (Ql.frame (by simp only[go_sem,simprocAttr])) ⟨d',_,hs,rfl,rfl,Nat.le_trans (Nat.le_succ a) (Nat.le_add_right _ _),rfl⟩ ?_
  rintro m _ hm ⟨d1,j,Zf,hj,zk,haj,rfl⟩
  have Ze:=X9 (g:=g) (d:=d1) Qf
  generalize hH:h.set lo (QO g d1)=H at Ze
  have Jk:=Qd Ze
  by_cases c2:a<j
  ·have c3:decide (a<j)=true:=decide_eq_true c2
   have v1:IntKind.i64.wrap ((j:Int) - 1)=((j - 1:Nat):Int):=by rw[wrap64 (by omega) (by omega)];omega
   have p1:j<d.size:=by omega
   have p2:j - 1<d.size:=by omega
   refine Qc hb ?_
   simp only[go_sem,simprocAttr,Qa,Ze,Jk,c3,v1]
   refine QA Qe hb 200 mixed [(0,true),(1,true),(2,true),(3,true),(4,true),(5,true),(6,true),(7,true),(8,true),(9,true),(10,true),(11,true),(12,true),(13,false),(14,true)] (by kernel_rfl) (by kernel_rfl) ?_
   simp only[go_sem,simprocAttr,Qa,Ze,Jk,c3,v1,p1,p2,Zf]
   refine Zo hb Yt rfl ?_ (YB d1[j]! d1[j - 1]!) (Qm.flat rfl) rfl fun d h hR=>?_
   ·simp only[go_sem,simprocAttr]
   obtain ⟨rfl,rfl⟩:=hR
   refine QF hb ?_
   simp only[go_sem,simprocAttr]
   have un:Sort.insInner Qn a j d1=if Qn d1[j]! d1[j - 1]! then Sort.insInner Qn a (j - 1) (Sort.swp d1 j (j - 1)) else d1:=by
    obtain ⟨j',rfl⟩:∃ j',j=j'+1:=⟨j - 1,by omega⟩
    rw[Sort.insInner]
    simp [show j'+1 > a from c2]
   cases Mi:Qn d1[j]! d1[j - 1]!
   ·rw[Mi,if_neg (by decide)] at un
    simp only[go_sem,simprocAttr,Mi]
    refine Qc hb ?_
    simp only[go_sem,simprocAttr,Qa]
    have v2:IntKind.i64.wrap (((a+1+k:Nat):Int)+1)=((a+1+(k+1):Nat):Int):=by rw[wrap64 (by omega) (by omega)];omega
    rw[v2]
    have Jz:Sort.insOuter Qn a b (a+1+(k+1)) d1=Sort.insertionSort Qn d a b:=by
     rw[← hd]
     conv=>rhs;rw[Sort.insOuter,if_pos c]
     rw[← zk,un]
     rfl
    refine ⟨by omega,_,?_,d1,Zf,Jz,by omega,rfl⟩
    rw[← hH]
    exact Ql.frame (by simp only[go_sem,simprocAttr])
   ·rw[Mi,if_pos rfl] at un
    simp only[go_sem,simprocAttr,Mi]
    refine wX (⟨[(0,.ref lo g 0 d.size),(1,Qb a),(2,Qb b),(6,Qb (a+1+k:Nat)),(7,Qb j)],h.set lo (QO g (Sort.swp d1 j (j - 1)))⟩) Qe hb mixed [(0,true),(1,true),(2,true),(3,true),(5,true),(6,true),(7,true),(8,true),(9,true),(10,true),(11,true),(12,true),(13,true),(14,true)] [4,15,16,17] (by kernel_rfl) (by kernel_rfl) (fun s hw=>jW hw rfl ?_) ?_
    rotate_left
    ·simp only[go_sem,simprocAttr,Qa,Ze,Jk,c3,v1,p1,p2,Zf,Qw Jk,List.set_set,Xz]
     rw[XA g d1 _ _ _ Zf p1 p2,← hH,List.set_set]
     repeat' refine And.intro ?_ ?_
     all_goals exact Ql.frame (by simp only[go_sem,simprocAttr])
    refine Qc hb ?_
    simp only[go_sem,simprocAttr,v1]
    refine ⟨by omega,_,?_,Sort.swp d1 j (j - 1),j - 1,by rw[swp_size,Zf],by omega,by rw[← un,zk],by omega,rfl⟩
    exact Ql.frame (by simp only[go_sem,simprocAttr])
  ·have c3:decide (a<j)=false:=decide_eq_false c2
   have un:Sort.insInner Qn a j d1=d1:=by
    cases j with
    | zero=>rfl
    | succ j'=>rw[Sort.insInner];simp [show ¬ j'+1 > a from c2]
   refine Qc hb ?_
   simp only[go_sem,simprocAttr,Qa,Ze,Jk,c3]
   refine QA Qe hb 200 mixed [(0,true),(1,true),(2,true),(3,true),(4,true),(5,true),(6,true),(7,true),(8,true),(9,true),(10,true),(11,true),(12,true),(13,false),(14,true)] (by kernel_rfl) (by kernel_rfl) ?_
   simp only[go_sem,simprocAttr,Qa,Ze,Jk,c3,Zf]
   refine Qc hb ?_
   simp only[go_sem,simprocAttr,Qa]
   have v2:IntKind.i64.wrap (((a+1+k:Nat):Int)+1)=((a+1+(k+1):Nat):Int):=by rw[wrap64 (by omega) (by omega)];omega
   rw[v2]
   have Jz:Sort.insOuter Qn a b (a+1+(k+1)) d1=Sort.insertionSort Qn d a b:=by
    rw[← hd]
    conv=>rhs;rw[Sort.insOuter,if_pos c]
    rw[← zk,un]
    rfl
   refine ⟨by omega,_,?_,d1,Zf,Jz,by omega,rfl⟩
   rw[← hH]
   exact Ql.frame (by simp only[go_sem,simprocAttr])
 ·have c1:decide (a+1+k<b)=false:=decide_eq_false c
  rw[Sort.insOuter,if_neg c] at hd
  refine Qc hb ?_
  simp only[go_sem,simprocAttr,Qa,hl,c1]
  exact congrArg (fun x=>h.set lo (QO g x)) hd
end
theorem RX (hi first:Nat):∀ (n root:Nat) (d:Array Int),hi - root≤n→(Sort.siftDown Qn hi first root d).size=d.size
 | n,root,d,hn=>by
  rw[Sort.siftDown]
  split
  ·rfl
  ·rename_i h1
   split
   ·split
    ·rfl
    ·split
     ·obtain ⟨n',rfl⟩:∃ n',n=n'+1:=⟨n - 1,by omega⟩
      rw[RX hi first n' _ _ (by omega),swp_size]
     ·rfl
   ·split
    ·rfl
    ·obtain ⟨n',rfl⟩:∃ n',n=n'+1:=⟨n - 1,by omega⟩
     rw[RX hi first n' _ _ (by omega),swp_size]
section
variable {h:List Ob} {lo g:Nat} {d:Array Int} (ho:h[lo]? = some (QO g d))
include ho
theorem pK (hi first root:Nat) (Q9:first+hi≤d.size) (RY:root≤d.size) (hz:d.size<1000000000) :
  QG Tryz.prog 304 h [.ref lo g 0 d.size,Qb root,Qb hi,Qb first] (fun dd h'=>dd=.tup []∧h'=h.set lo (QO g (Sort.siftDown Qn hi first root d))):=by
 refine QW Qe 200 Tryz.func304 rfl Tryz.ntmps304 Tryz.results304 rfl fun base w pl hb=>?_
 have Qf:=Qd ho
 simp only[go_sem,simprocAttr,Qa,ho,Qf]
 refine ZB (fun m st=>∃ (d1:Array Int) (r:Nat),d1.size=d.size∧m≤r∧r≤d.size∧Sort.siftDown Qn hi first r d1=Sort.siftDown Qn hi first root d∧st=⟨[(0,.ref lo g 0 d.size),(2,Qb hi),(3,Qb first),(8,Qb r)],h.set lo (QO g d1)⟩) (d.size) (s0:=⟨[(0,.ref lo g 0 d.size),(2,Qb hi),(3,Qb first),(8,Qb root)],h.set lo (QO g d)⟩) ?_ ⟨d,root,rfl,Nat.zero_le _,RY,rfl,rfl⟩ ?_
 ·rw[YC ho]
  exact Ql.frame (by simp only[go_sem,simprocAttr])
 rintro m _ hm ⟨d1,r,Zf,EE,zC,Wi,rfl⟩
 have Ze:=X9 (g:=g) (d:=d1) Qf
 generalize hH:h.set lo (QO g d1)=H at Ze
 have Jk:=Qd Ze
 have v1:IntKind.i64.wrap (2*(r:Int))=((2*r:Nat):Int):=by rw[wrap64 (by omega) (by omega)];omega
 have v2:IntKind.i64.wrap (((2*r:Nat):Int)+1)=((2*r+1:Nat):Int):=by rw[wrap64 (by omega) (by omega)];omega
 have v3:IntKind.i64.wrap (((2*r+1:Nat):Int)+1)=((2*r+1+1:Nat):Int):=by rw[wrap64 (by omega) (by omega)];omega
 rw[Sort.siftDown] at Wi
 by_cases c1:hi≤2*r+1
 ·have e1:decide (hi≤2*r+1)=true:=decide_eq_true c1
  rw[dif_pos c1] at Wi
  refine Qc hb ?_
  simp only[go_sem,simprocAttr,Qa,Ze,Jk,v1,v2,e1]
  exact hH.symm.trans (congrArg (fun x=>h.set lo (QO g x)) Wi)
 ·have e1:decide (hi≤2*r+1)=false:=decide_eq_false c1
  rw[dif_neg c1] at Wi
  have p0:first+r<d.size:=by omega
  have p1:first+(2*r+1)<d.size:=by omega
  have w0:IntKind.i64.wrap ((first:Int)+r)=((first+r:Nat):Int):=by rw[wrap64 (by omega) (by omega)];omega
  have w1:IntKind.i64.wrap ((first:Int)+(2*r+1:Nat))=((first+(2*r+1):Nat):Int):=by rw[wrap64 (by omega) (by omega)];omega
  have w2:IntKind.i64.wrap ((first:Int)+(2*r+1+1:Nat))=((first+(2*r+1+1):Nat):Int):=by rw[wrap64 (by omega) (by omega)];omega
  have w3:IntKind.i64.wrap (((first+(2*r+1):Nat):Int)+1)=((first+(2*r+1)+1:Nat):Int):=by rw[wrap64 (by omega) (by omega)];omega
  refine Qc hb ?_
  simp only[go_sem,simprocAttr,Qa,Ze,Jk,v1,v2,e1]
  first | refine Wc ?_ | skip
  refine jG [0,2,3,8,9] [(36,QN (decide (2*r+1+1<hi) && Qn d1[first+(2*r+1)]! d1[first+(2*r+1)+1]!))] rfl ?_ ?_
  ·by_cases c2:2*r+1+1<hi
   ·have e2:decide (2*r+1+1<hi)=true:=decide_eq_true c2
    have p2:first+(2*r+1)+1<d.size:=by omega
    refine QA Qe hb 200 mixed [(0,true),(1,true),(2,true),(3,true),(4,true),(5,true),(6,true),(7,true),(8,true),(9,true),(10,true),(11,true),(12,true),(13,true),(14,true),(15,true),(16,true),(17,true),(18,false),(19,true)] (by kernel_rfl) (by kernel_rfl) ?_
    simp only[go_sem,simprocAttr,Qa,Ze,Jk,Zf,v3,e2,w1,w3,p1,p2]
    refine Zo hb Yt rfl ?_ (YB d1[first+(2*r+1)]! d1[first+(2*r+1)+1]!) (Qm.flat rfl) rfl fun d h hR=>?_
    ·simp only[go_sem,simprocAttr]
    obtain ⟨rfl,rfl⟩:=hR
    refine QF hb ?_
    simp only[go_sem,simprocAttr]
    exact Ql.frame (by simp only[go_sem,simprocAttr])
   ·have e2:decide (2*r+1+1<hi)=false:=decide_eq_false c2
    refine QA Qe hb 200 mixed [(0,true),(1,true),(2,true),(3,true),(4,true),(5,true),(6,true),(7,true),(8,true),(9,true),(10,true),(11,true),(12,true),(13,true),(14,true),(15,true),(16,true),(17,true),(18,false),(19,true)] (by kernel_rfl) (by kernel_rfl) ?_
    simp only[go_sem,simprocAttr,Qa,Ze,Jk,Zf,v3,e2,w1,w3,p1]
    exact Ql.frame (by simp only[go_sem,simprocAttr])
  ·cases hB:(decide (2*r+1+1<hi) && Qn d1[first+(2*r+1)]! d1[first+(2*r+1)+1]!)
   ·rw[hB,if_neg (by decide)] at Wi
    refine Qc hb ?_
    simp only[go_sem,simprocAttr,hB]
    refine QA Qe hb 200 mixed [(0,true),(1,true),(2,true),(3,true),(4,true),(5,true),(6,true),(7,true),(8,true),(9,true),(10,true),(11,true),(12,false),(13,true)] (by kernel_rfl) (by kernel_rfl) ?_
    simp only[go_sem,simprocAttr,Qa,Ze,Jk,Zf,w0,w1,p0,p1]
    refine Zo hb Yt rfl ?_ (YB d1[first+r]! d1[first+(2*r+1)]!) (Qm.flat rfl) rfl fun d h hR=>?_
    ·simp only[go_sem,simprocAttr]
    obtain ⟨rfl,rfl⟩:=hR
    refine QF hb ?_
    simp only[go_sem,simprocAttr]
    cases hq:Qn d1[first+r]! d1[first+(2*r+1)]!
    ·rw[hq,Bool.not_false,if_pos rfl] at Wi
     simp only[go_sem,simprocAttr,hq]
     exact hH.symm.trans (congrArg (fun x=>h.set lo (QO g x)) Wi)
    ·rw[hq,Bool.not_true,if_neg (by decide)] at Wi
     skip
     simp only[go_sem,simprocAttr,hq]
     refine wX (⟨[(0,.ref lo g 0 d.size),(2,Qb hi),(3,Qb first),(9,Qb (2*r+1:Nat))],h.set lo (QO g (Sort.swp d1 (first+r) (first+(2*r+1))))⟩) Qe hb mixed [(0,true),(1,true),(2,true),(3,true),(4,true),(5,true),(6,true),(8,true),(9,true),(10,true),(11,true),(12,true),(13,true),(14,true),(15,true),(16,true),(17,true),(18,true),(19,true),(20,true)] [7,21,22,23] (by kernel_rfl) (by kernel_rfl) (fun s hw=>jW hw rfl ?_) ?_
     rotate_left
     ·simp only[go_sem,simprocAttr,Qa,Ze,Jk,w0,w1,p0,p1,Zf,Qw Jk,List.set_set,Xz]
      rw[XA g d1 _ _ _ Zf p0 p1,← hH,List.set_set]
      repeat' refine And.intro ?_ ?_
      all_goals exact Ql.frame (by simp only[go_sem,simprocAttr])
     refine Qc hb ?_
     simp only[go_sem,simprocAttr]
     refine ⟨by omega,_,?_,Sort.swp d1 (first+r) (first+(2*r+1)),2*r+1,by rw[swp_size,Zf],by omega,by omega,Wi,rfl⟩
     exact Ql.frame (by simp only[go_sem,simprocAttr])
   ·have zQ:2*r+1+1<hi:=by
     rw[Bool.and_eq_true] at hB
     exact of_decide_eq_true hB.1
    rw[hB,if_pos rfl] at Wi
    have p2:first+(2*r+1+1)<d.size:=by omega
    refine Qc hb ?_
    simp only[go_sem,simprocAttr,hB,v3]
    refine QA Qe hb 200 mixed [(0,true),(1,true),(2,true),(3,true),(4,true),(5,true),(6,true),(7,true),(8,true),(9,true),(10,true),(11,true),(12,false),(13,true)] (by kernel_rfl) (by kernel_rfl) ?_
    simp only[go_sem,simprocAttr,Qa,Ze,Jk,Zf,w0,w2,p0,p2]
    refine Zo hb Yt rfl ?_ (YB d1[first+r]! d1[first+(2*r+1+1)]!) (Qm.flat rfl) rfl fun d h hR=>?_
    ·simp only[go_sem,simprocAttr]
    obtain ⟨rfl,rfl⟩:=hR
    refine QF hb ?_
    simp only[go_sem,simprocAttr]
    cases hq:Qn d1[first+r]! d1[first+(2*r+1+1)]!
    ·rw[hq,Bool.not_false,if_pos rfl] at Wi
     simp only[go_sem,simprocAttr,hq]
     exact hH.symm.trans (congrArg (fun x=>h.set lo (QO g x)) Wi)
    ·rw[hq,Bool.not_true,if_neg (by decide)] at Wi
     rw[dif_pos (show 2*r+2<hi from zQ)] at Wi
     simp only[go_sem,simprocAttr,hq]
     refine wX (⟨[(0,.ref lo g 0 d.size),(2,Qb hi),(3,Qb first),(9,Qb (2*r+1+1:Nat))],h.set lo (QO g (Sort.swp d1 (first+r) (first+(2*r+1+1))))⟩) Qe hb mixed [(0,true),(1,true),(2,true),(3,true),(4,true),(5,true),(6,true),(8,true),(9,true),(10,true),(11,true),(12,true),(13,true),(14,true),(15,true),(16,true),(17,true),(18,true),(19,true),(20,true)] [7,21,22,23] (by kernel_rfl) (by kernel_rfl) (fun s hw=>jW hw rfl ?_) ?_
     rotate_left
     ·simp only[go_sem,simprocAttr,Qa,Ze,Jk,w0,w2,p0,p2,Zf,Qw Jk,List.set_set,Xz]
      rw[XA g d1 _ _ _ Zf p0 p2,← hH,List.set_set]
      repeat' refine And.intro ?_ ?_
      all_goals exact Ql.frame (by simp only[go_sem,simprocAttr])
     refine Qc hb ?_
     simp only[go_sem,simprocAttr]
     refine ⟨by omega,_,?_,Sort.swp d1 (first+r) (first+(2*r+1+1)),2*r+1+1,by rw[swp_size,Zf],by omega,by omega,Wi,rfl⟩
     exact Ql.frame (by simp only[go_sem,simprocAttr])
end
theorem Mj (hi first root:Nat) (d:Array Int):(Sort.siftDown Qn hi first root d).size=d.size:=RX hi first _ root d (Nat.le_refl _)
theorem pL (hi first:Nat):∀ (k:Nat) (d:Array Int),(Sort.heapBuild Qn hi first k d).size=d.size
 | 0,d=>rfl
 | k+1,d=>by rw[Sort.heapBuild,pL hi first k,Mj]
theorem pM (n:Nat):decide ((0:Int)≤(n:Int))=true:=decide_eq_true (Int.natCast_nonneg n)
section
variable {h:List Ob} {lo g:Nat} {d:Array Int} (ho:h[lo]? = some (QO g d))
include ho
theorem Qme (a b:Nat) (JW:a<b) (Q9:b≤d.size) (hz:d.size<1000000000) :
  QG Tryz.prog 294 h [.ref lo g 0 d.size,Qb a,Qb b] (fun dd h'=>dd=.tup []∧h'=h.set lo (QO g (Sort.heapSort Qn d a b))):=by
 have e0:IntKind.i64.wrap ((b:Int) - a)=((b - a:Nat):Int):=by rw[wrap64 (by omega) (by omega)];omega
 have e1:IntKind.i64.wrap (((b - a:Nat):Int) - 1)=((b - a - 1:Nat):Int):=by rw[wrap64 (by omega) (by omega)];omega
 have e2:((b - a - 1:Nat):Int).tdiv 2=(((b - a - 1) / 2:Nat):Int):=rfl
 have e3:IntKind.i64.wrap ((((b - a - 1) / 2:Nat):Int))=(((b - a - 1) / 2:Nat):Int):=by rw[wrap64 (by omega) (by omega)]
 have z0:((0:Nat):Int)=0:=rfl
 refine QW Qe 200 Tryz.func294 rfl Tryz.ntmps294 Tryz.results294 rfl fun base w pl hb=>?_
 have Qf:=Qd ho
 simp only[go_sem,simprocAttr,Qa,ho,Qf,e0,e1,e2,e3]
 unfold Sort.heapSort
 refine ZB (fun m st=>∃ (d1:Array Int) (k:Nat),d1.size=d.size∧k+m=(b - a - 1) / 2+1∧Sort.heapBuild Qn (b - a) a k d1=Sort.heapBuild Qn (b - a) a ((b - a - 1) / 2+1) d∧st=⟨[(0,.ref lo g 0 d.size),(6,Qb a),(7,Qb 0),(8,Qb (b - a:Nat)),(9,Qb ((k:Int) - 1))],h.set lo (QO g d1)⟩) ((b - a - 1) / 2+1) (s0:=⟨[(0,.ref lo g 0 d.size),(6,Qb a),(7,Qb 0),(8,Qb (b - a:Nat)),(9,Qb ((((b - a - 1) / 2+1:Nat):Int) - 1))],h.set lo (QO g d)⟩) ?_ ⟨d,_,rfl,rfl,rfl,rfl⟩ ?_
 ·rw[YC ho,show ((((b - a - 1) / 2+1:Nat):Int) - 1)=(((b - a - 1) / 2:Nat):Int) by omega]
  exact Ql.frame (by simp only[go_sem,simprocAttr])
 rintro m _ hm ⟨d1,k,Zf,hk,Wi,rfl⟩
 have Ze:=X9 (g:=g) (d:=d1) Qf
 rcases k with _ | k
 ·rw[Sort.heapBuild] at Wi
  refine Qc hb ?_
  simp only[go_sem,simprocAttr,Qa,Ze,show ((0:Nat):Int) - 1=-1 from rfl,show decide ((0:Int)≤-1)=false from rfl,e1]
  refine Qc hb ?_
  simp only[go_sem,simprocAttr,Qa,e1]
  rw[← Wi]
  refine ZB (fun m st=>∃ (d2:Array Int) (k:Nat),d2.size=d.size∧k+m=b - a∧Sort.heapPop Qn a k d2=Sort.heapPop Qn a (b - a) d1∧st=⟨[(0,.ref lo g 0 d.size),(6,Qb a),(7,Qb 0),(10,Qb ((k:Int) - 1))],h.set lo (QO g d2)⟩) (b - a) (s0:=⟨[(0,.ref lo g 0 d.size),(6,Qb a),(7,Qb 0),(10,Qb (((b - a:Nat):Int) - 1))],h.set lo (QO g d1)⟩) ?_ ⟨d1,_,Zf,rfl,rfl,rfl⟩ ?_
  ·rw[show (((b - a:Nat):Int) - 1)=((b - a - 1:Nat):Int) by omega]
   exact Ql.frame (by simp only[go_sem,simprocAttr])
  rintro n _ hn ⟨d2,k,Jf,Z1,Jz,rfl⟩
  have Jd:=X9 (g:=g) (d:=d2) Qf
  generalize hH:h.set lo (QO g d2)=H at Jd
  have RZ:=Qd Jd
  rcases k with _ | k
  ·rw[Sort.heapPop] at Jz
   refine Qc hb ?_
   simp only[go_sem,simprocAttr,Qa,Jd,show ((0:Nat):Int) - 1=-1 from rfl,show decide ((0:Int)≤-1)=false from rfl]
   exact hH.symm.trans (congrArg (fun x=>h.set lo (QO g x)) Jz)
  ·rw[Sort.heapPop] at Jz
   have v0:(((k+1:Nat):Int) - 1)=(k:Int):=by omega
   have v1:IntKind.i64.wrap ((a:Int)+k)=((a+k:Nat):Int):=by rw[wrap64 (by omega) (by omega)];omega
   have v2:IntKind.i64.wrap ((k:Int) - 1)=(k:Int) - 1:=wrap64 (by omega) (by omega)
   have p0:a<d.size:=by omega
   have p1:a+k<d.size:=by omega
   refine Qc hb ?_
   simp only[go_sem,simprocAttr,Qa,Jd,RZ,v0,pM]
   refine wX (⟨[(0,.ref lo g 0 d.size),(6,Qb a),(7,Qb 0),(10,Qb k)],h.set lo (QO g (Sort.swp d2 a (a+k)))⟩) Qe hb mixed [(0,true),(1,true),(2,true),(3,true),(4,true),(6,true),(7,true),(8,true),(9,true),(10,true),(11,true),(12,true),(13,true),(14,true),(15,true),(16,true)] [5,17,18,19] (by kernel_rfl) (by kernel_rfl) (fun s hw=>jW hw rfl ?_) ?_
   rotate_left
   ·simp only[go_sem,simprocAttr,Qa,Jd,RZ,v1,p0,p1,Jf,Qw RZ,List.set_set,Xz]
    rw[XA g d2 _ _ _ Jf p0 p1,← hH,List.set_set]
    repeat' refine And.intro ?_ ?_
    all_goals exact Ql.frame (by simp only[go_sem,simprocAttr])
   refine Qc hb ?_
   simp only[go_sem,simprocAttr]
   have Gj:(Sort.swp d2 a (a+k)).size=d.size:=by rw[swp_size,Jf]
   refine Q5 hb mR rfl ?_ (Gj▸pK (X9 (g:=g) (d:=Sort.swp d2 a (a+k)) Qf) k a 0 (by omega) (by omega) (by omega)) rfl fun d h hR=>?_
   ·simp only[go_sem,simprocAttr,List.set_set,v2]
   obtain ⟨rfl,rfl⟩:=hR
   refine Qc hb ?_
   simp only[go_sem,simprocAttr,List.set_set,v2]
   refine ⟨by omega,_,?_,Sort.siftDown Qn k a 0 (Sort.swp d2 a (a+k)),k,by rw[Mj,Gj],by omega,Jz,rfl⟩
   exact Ql.frame (by simp only[go_sem,simprocAttr])
 ·rw[Sort.heapBuild] at Wi
  have v0:(((k+1:Nat):Int) - 1)=(k:Int):=by omega
  have v2:IntKind.i64.wrap ((k:Int) - 1)=(k:Int) - 1:=wrap64 (by omega) (by omega)
  refine Qc hb ?_
  simp only[go_sem,simprocAttr,Qa,Ze,v0,pM]
  refine Q5 hb mR rfl ?_ (Zf▸pK Ze (b - a) a k (by omega) (by omega) (by omega)) rfl fun d h hR=>?_
  ·simp only[go_sem,simprocAttr,List.set_set,v2]
  obtain ⟨rfl,rfl⟩:=hR
  refine Qc hb ?_
  simp only[go_sem,simprocAttr,List.set_set,v2]
  refine ⟨by omega,_,?_,Sort.siftDown Qn (b - a) a k d1,k,by rw[Mj,Zf],by omega,Wi,rfl⟩
  exact Ql.frame (by simp only[go_sem,simprocAttr])
end
theorem R0 (p:Int→Bool) (d:Array Int) (i j:Nat) (hi:0<i):Sort.scanDown p d i j=if i≤j && p d[j]! then Sort.scanDown p d i (j - 1) else j:=by
 cases j with
 | zero=>
  rw[Sort.scanDown,if_neg]
  simp;omega
 | succ j=>rw[Sort.scanDown];rfl
theorem Ml (p q:Int→Bool) (hq:∀ x,q x=!p x) (d:Array Int) (i j:Nat) (ha:0<i) (JN:i≤j+1) (h:¬ Sort.scanUp p d j i > Sort.scanDown q d (Sort.scanUp p d j i) j) :
  Sort.scanUp p d j i<Sort.scanDown q d (Sort.scanUp p d j i) j:=by
 obtain ⟨u1,u2,u3,u4⟩:=Sort.scanUp_spec p d j _ i rfl
 obtain ⟨v1,v2,v3,v4⟩:=Sort.scanDown_spec q d (Sort.scanUp p d j i) j
 rcases Nat.lt_or_ge (Sort.scanUp p d j i) (Sort.scanDown q d (Sort.scanUp p d j i) j) with h' | h'
 ·exact h'
 ·have e:Sort.scanUp p d j i=Sort.scanDown q d (Sort.scanUp p d j i) j:=by omega
  have f1:=u4 (by omega)
  have f2:=v4 (by omega) (by omega)
  rw[hq,← e,f1] at f2
  cases f2
theorem pN (a:Nat):∀ (n i j:Nat) (d:Array Int),j+1 - i≤n→(Sort.partEqLoop Qn a i j d).2.size=d.size
 | n,i,j,d,hn=>by
  rw[Sort.partEqLoop_eq]
  split
  ·rfl
  ·rename_i h
   have:=Sort.partEqLoop_guard Qn a i j d h
   obtain ⟨n',rfl⟩:∃ n',n=n'+1:=⟨n - 1,by omega⟩
   rw[pN a n' _ _ _ (by omega),swp_size]
theorem pO (a:Nat):∀ (n i j:Nat) (d:Array Int),j+1 - i≤n→(Sort.partLoop Qn a i j d).2.size=d.size
 | n,i,j,d,hn=>by
  rw[Sort.partLoop_eq]
  split
  ·rfl
  ·rename_i h
   have:=Sort.partLoop_guard Qn a i j d h
   obtain ⟨n',rfl⟩:∃ n',n=n'+1:=⟨n - 1,by omega⟩
   rw[pO a n' _ _ _ (by omega),swp_size]
section
variable {h:List Ob} {lo g:Nat} {d:Array Int} (ho:h[lo]? = some (QO g d))
include ho
theorem Qmf (a b pv:Nat) (JW:a<b) (Q9:b≤d.size) (hp:a≤pv) (OE:pv<b) (hz:d.size<1000000000) :
  QG Tryz.prog 300 h [.ref lo g 0 d.size,Qb a,Qb b,Qb pv] (fun dd h'=>dd=Qb (Sort.partitionEqual Qn d a b pv).1∧h'=h.set lo (QO g (Sort.partitionEqual Qn d a b pv).2)):=by
 have e0:IntKind.i64.wrap ((a:Int)+1)=((a+1:Nat):Int):=by rw[wrap64 (by omega) (by omega)];omega
 have e1:IntKind.i64.wrap ((b:Int) - 1)=((b - 1:Nat):Int):=by rw[wrap64 (by omega) (by omega)];omega
 have pa:a<d.size:=by omega
 have pp:pv<d.size:=by omega
 have hsd:d.size=d.size:=rfl
 refine QW Qe 200 Tryz.func300 rfl Tryz.ntmps300 Tryz.results300 rfl fun base w pl hb=>?_
 have Qf:=Qd ho
 simp only[go_sem,simprocAttr,Qa,ho,Qf]
 refine QA Qe hb 200 mixed [(0,true),(1,true),(2,true),(3,true),(4,true),(5,true),(6,true),(7,true),(8,true),(9,true),(10,true),(11,true),(12,true),(13,false),(14,true),(15,false)] (by kernel_rfl) (by kernel_rfl) ?_
 simp only[go_sem,simprocAttr,Qa,ho,Qf,pa,pp,Qw Qf,List.set_set,Xz]
 rw[XA g d _ _ _ rfl pa pp]
 refine Qc hb ?_
 simp only[go_sem,simprocAttr,e0,e1]
 unfold Sort.partitionEqual
 refine ZB (fun m st=>∃ (d1:Array Int) (i j:Nat),d1.size=d.size∧a<i∧i≤j+1∧j<b∧m+(j+1 - i)≤b∧Sort.partEqLoop Qn a i j d1=Sort.partEqLoop Qn a (a+1) (b - 1) (Sort.swp d a pv)∧st=⟨[(0,.ref lo g 0 d.size),(1,Qb a),(9,Qb i),(10,Qb j)],h.set lo (QO g d1)⟩) b (s0:=⟨[(0,.ref lo g 0 d.size),(1,Qb a),(9,Qb (a+1:Nat)),(10,Qb (b - 1:Nat))],h.set lo (QO g (Sort.swp d a pv))⟩) (Ql.frame (by simp only[go_sem,simprocAttr])) ⟨_,a+1,b - 1,swp_size d a pv,by omega,by omega,by omega,by omega,rfl,rfl⟩ ?_
 rintro m _ hm ⟨d1,i,j,XB,R3,JN,hjb,Lm,QZ,rfl⟩
 have Wj:=X9 (g:=g) (d:=d1) Qf
 generalize hH:h.set lo (QO g d1)=H at Wj
 have WL:=Qd Wj
 rw[Sort.partEqLoop_eq] at QZ
 have Bm:=Ml (fun x=>!Qn d1[a]! x) (fun x=>Qn d1[a]! x) (fun x=>by simp) d1 i j (by omega) JN
 obtain ⟨u1,u2,u3,u4⟩:=Sort.scanUp_spec (fun x=>!Qn d1[a]! x) d1 j _ i rfl
 have u5:=u2 JN
 generalize Wa:Sort.scanUp (fun x=>!Qn d1[a]! x) d1 j i=i2 at *
 obtain ⟨w1,w2,w3,w4⟩:=Sort.scanDown_spec (fun x=>Qn d1[a]! x) d1 i2 j
 have w5:=w2 u5
 generalize W4:Sort.scanDown (fun x=>Qn d1[a]! x) d1 i2 j=j2 at *
 refine Qc hb ?_
 simp only[go_sem,simprocAttr,Qa]
 refine ZB (fun m st=>∃ xa:Nat,xa=i+m∧xa≤j+1∧Sort.scanUp (fun x=>!Qn d1[a]! x) d1 j xa=i2∧st=⟨[(0,.ref lo g 0 d.size),(1,Qb a),(9,Qb xa),(10,Qb j)],H⟩) d.size (s0:=⟨[(0,.ref lo g 0 d.size),(1,Qb a),(9,Qb i),(10,Qb j)],H⟩) (Ql.frame (by simp only[go_sem,simprocAttr])) ⟨i,rfl,by omega,Wa,rfl⟩ ?_
 rintro ma _ hma ⟨xa,hxa,hya,Gk,rfl⟩
 have ga:xa≤j→xa<d.size:=by omega
 rw[Sort.scanUp] at Gk
 refine Qc hb ?_
 simp only[go_sem,simprocAttr,Qa,Wj,WL]
 first | refine Wc ?_ | skip
 refine jG [0,1,9,10] [(43,QN (decide (xa≤j) && !Qn d1[a]! d1[xa]!))] rfl ?_ ?_
 ·by_cases ca:xa≤j
  ·have ea:decide (xa≤j)=true:=decide_eq_true ca
   have g2a:=ga ca
   refine QA Qe hb 200 mixed [(0,true),(1,true),(2,true),(3,true),(4,true),(5,true),(6,true),(7,true),(8,true),(9,true),(10,true),(11,true),(12,false),(13,true),(14,true)] (by kernel_rfl) (by kernel_rfl) ?_
   simp only[go_sem,simprocAttr,Qa,Wj,WL,XB,ea,pa,g2a]
   refine Zo hb Yt rfl ?_ (YB d1[a]! d1[xa]!) (Qm.flat rfl) rfl fun d h hR=>?_
   ·simp only[go_sem,simprocAttr]
   obtain ⟨rfl,rfl⟩:=hR
   refine QF hb ?_
   simp only[go_sem,simprocAttr]
   exact Ql.frame (by simp only[go_sem,simprocAttr])
  ·have ea:decide (xa≤j)=false:=decide_eq_false ca
   refine QA Qe hb 200 mixed [(0,true),(1,true),(2,true),(3,true),(4,true),(5,true),(6,true),(7,true),(8,true),(9,true),(10,true),(11,true),(12,false),(13,true),(14,true)] (by kernel_rfl) (by kernel_rfl) ?_
   simp only[go_sem,simprocAttr,Qa,Wj,WL,XB,ea,pa]
   exact Ql.frame (by simp only[go_sem,simprocAttr])
 cases hB:(decide (xa≤j) && !Qn d1[a]! d1[xa]!)
 ·rw[hB,if_neg (by decide)] at Gk
  refine Qc hb ?_
  simp only[go_sem,simprocAttr,Qa,hB]
  subst Gk
  refine Qc hb ?_
  simp only[go_sem,simprocAttr,Qa]
  refine ZB (fun m st=>∃ xb:Nat,xb+m=j∧xa≤xb+1∧Sort.scanDown (fun x=>Qn d1[a]! x) d1 xa xb=j2∧st=⟨[(0,.ref lo g 0 d.size),(1,Qb a),(9,Qb xa),(10,Qb xb)],H⟩) d.size (s0:=⟨[(0,.ref lo g 0 d.size),(1,Qb a),(9,Qb xa),(10,Qb j)],H⟩) (Ql.frame (by simp only[go_sem,simprocAttr])) ⟨j,rfl,by omega,W4,rfl⟩ ?_
  rintro mb _ hmb ⟨xb,kx,hyb,Gl,rfl⟩
  have gb:xa≤xb→xb<d.size:=by omega
  rw[R0 _ _ _ _ (by omega)] at Gl
  refine Qc hb ?_
  simp only[go_sem,simprocAttr,Qa,Wj,WL]
  first | refine Wc ?_ | skip
  refine jG [0,1,9,10] [(59,QN (decide (xa≤xb) && Qn d1[a]! d1[xb]!))] rfl ?_ ?_
  ·by_cases cb:xa≤xb
   ·have eb:decide (xa≤xb)=true:=decide_eq_true cb
    have g2b:=gb cb
    refine QA Qe hb 200 mixed [(0,true),(1,true),(2,true),(3,true),(4,true),(5,true),(6,true),(7,true),(8,true),(9,true),(10,true),(11,true),(12,false),(13,true)] (by kernel_rfl) (by kernel_rfl) ?_
    simp only[go_sem,simprocAttr,Qa,Wj,WL,XB,eb,pa,g2b]
    refine Zo hb Yt rfl ?_ (YB d1[a]! d1[xb]!) (Qm.flat rfl) rfl fun d h hR=>?_
    ·simp only[go_sem,simprocAttr]
    obtain ⟨rfl,rfl⟩:=hR
    refine QF hb ?_
    simp only[go_sem,simprocAttr]
    exact Ql.frame (by simp only[go_sem,simprocAttr])
   ·have eb:decide (xa≤xb)=false:=decide_eq_false cb
    refine QA Qe hb 200 mixed [(0,true),(1,true),(2,true),(3,true),(4,true),(5,true),(6,true),(7,true),(8,true),(9,true),(10,true),(11,true),(12,false),(13,true)] (by kernel_rfl) (by kernel_rfl) ?_
    simp only[go_sem,simprocAttr,Qa,Wj,WL,XB,eb,pa]
    exact Ql.frame (by simp only[go_sem,simprocAttr])
  cases hB:(decide (xa≤xb) && Qn d1[a]! d1[xb]!)
  ·rw[hB,if_neg (by decide)] at Gl
   refine Qc hb ?_
   simp only[go_sem,simprocAttr,Qa,hB]
   have vp:IntKind.i64.wrap ((xa:Int)+1)=((xa+1:Nat):Int):=by rw[wrap64 (by omega) (by omega)];omega
   subst Gl
   by_cases cg:xb<xa
   ·have eg:decide (xb<xa)=true:=decide_eq_true cg
    rw[if_pos cg] at QZ
    refine Qc hb ?_
    simp only[go_sem,simprocAttr,Qa,eg]
    refine Qc hb ?_
    simp only[go_sem,simprocAttr,Qa]
    rw[← QZ,← hH]
    first | exact ⟨rfl,rfl⟩ | rfl
   ·have eg:decide (xb<xa)=false:=decide_eq_false cg
    have pP:=Bm cg
    have px:xa<d.size:=by omega
    have py:xb<d.size:=by omega
    have Gm:IntKind.i64.wrap ((xb:Int) - 1)=((xb - 1:Nat):Int):=by rw[wrap64 (by omega) (by omega)];omega
    rw[if_neg cg] at QZ
    refine Qc hb ?_
    simp only[go_sem,simprocAttr,Qa,eg]
    refine QA Qe hb 200 mixed [(0,true),(1,true),(2,true),(3,true),(4,true),(5,true),(6,true),(7,true),(8,true),(9,true),(10,true),(11,true),(12,true),(13,false),(14,true),(15,false)] (by kernel_rfl) (by kernel_rfl) ?_
    simp only[go_sem,simprocAttr,Qa,Wj,WL,XB,px,py,Qw WL,List.set_set,Xz,vp,Gm]
    rw[XA g d1 _ _ _ XB px py]
    refine ⟨by omega,_,?_,Sort.swp d1 xa xb,xa+1,xb - 1,by rw[swp_size,XB],by omega,by omega,by omega,by omega,QZ,rfl⟩
    rw[← hH,List.set_set]
    exact Ql.frame (by simp only[go_sem,simprocAttr])
  ·rw[hB,if_pos rfl] at Gl
   have lqb:xa≤xb:=by
    rw[Bool.and_eq_true] at hB
    exact of_decide_eq_true hB.1
   have vb:IntKind.i64.wrap ((xb:Int) - 1)=((xb - 1:Nat):Int):=by rw[wrap64 (by omega) (by omega)];omega
   refine Qc hb ?_
   simp only[go_sem,simprocAttr,Qa,hB,vb]
   refine ⟨by omega,_,?_,xb - 1,by omega,by omega,Gl,rfl⟩
   exact Ql.frame (by simp only[go_sem,simprocAttr])
 ·rw[hB,if_pos rfl] at Gk
  have lqa:xa≤j:=by
   rw[Bool.and_eq_true] at hB
   exact of_decide_eq_true hB.1
  have va:IntKind.i64.wrap ((xa:Int)+1)=((xa+1:Nat):Int):=by rw[wrap64 (by omega) (by omega)];omega
  refine Qc hb ?_
  simp only[go_sem,simprocAttr,Qa,hB,va]
  refine ⟨by omega,_,?_,xa+1,by omega,by omega,Gk,rfl⟩
  exact Ql.frame (by simp only[go_sem,simprocAttr])
omit ho in
theorem Qmk (d:Array Int) (a b pv:Nat):Sort.partition Qn d a b pv =
  if Sort.scanUp (fun x=>Qn x (Sort.swp d a pv)[a]!) (Sort.swp d a pv) (b - 1) (a+1) > Sort.scanDown (fun x=>!Qn x (Sort.swp d a pv)[a]!) (Sort.swp d a pv) (Sort.scanUp (fun x=>Qn x (Sort.swp d a pv)[a]!) (Sort.swp d a pv) (b - 1) (a+1)) (b - 1) then
   (Sort.scanDown (fun x=>!Qn x (Sort.swp d a pv)[a]!) (Sort.swp d a pv) (Sort.scanUp (fun x=>Qn x (Sort.swp d a pv)[a]!) (Sort.swp d a pv) (b - 1) (a+1)) (b - 1),true,Sort.swp (Sort.swp d a pv) (Sort.scanDown (fun x=>!Qn x (Sort.swp d a pv)[a]!) (Sort.swp d a pv) (Sort.scanUp (fun x=>Qn x (Sort.swp d a pv)[a]!) (Sort.swp d a pv) (b - 1) (a+1)) (b - 1)) a)
  else ((Sort.partLoop Qn a (Sort.scanUp (fun x=>Qn x (Sort.swp d a pv)[a]!) (Sort.swp d a pv) (b - 1) (a+1)+1) (Sort.scanDown (fun x=>!Qn x (Sort.swp d a pv)[a]!) (Sort.swp d a pv) (Sort.scanUp (fun x=>Qn x (Sort.swp d a pv)[a]!) (Sort.swp d a pv) (b - 1) (a+1)) (b - 1) - 1) (Sort.swp (Sort.swp d a pv) (Sort.scanUp (fun x=>Qn x (Sort.swp d a pv)[a]!) (Sort.swp d a pv) (b - 1) (a+1)) (Sort.scanDown (fun x=>!Qn x (Sort.swp d a pv)[a]!) (Sort.swp d a pv) (Sort.scanUp (fun x=>Qn x (Sort.swp d a pv)[a]!) (Sort.swp d a pv) (b - 1) (a+1)) (b - 1)))).1,false,
   Sort.swp (Sort.partLoop Qn a (Sort.scanUp (fun x=>Qn x (Sort.swp d a pv)[a]!) (Sort.swp d a pv) (b - 1) (a+1)+1) (Sort.scanDown (fun x=>!Qn x (Sort.swp d a pv)[a]!) (Sort.swp d a pv) (Sort.scanUp (fun x=>Qn x (Sort.swp d a pv)[a]!) (Sort.swp d a pv) (b - 1) (a+1)) (b - 1) - 1) (Sort.swp (Sort.swp d a pv) (Sort.scanUp (fun x=>Qn x (Sort.swp d a pv)[a]!) (Sort.swp d a pv) (b - 1) (a+1)) (Sort.scanDown (fun x=>!Qn x (Sort.swp d a pv)[a]!) (Sort.swp d a pv) (Sort.scanUp (fun x=>Qn x (Sort.swp d a pv)[a]!) (Sort.swp d a pv) (b - 1) (a+1)) (b - 1)))).2
    (Sort.partLoop Qn a (Sort.scanUp (fun x=>Qn x (Sort.swp d a pv)[a]!) (Sort.swp d a pv) (b - 1) (a+1)+1) (Sort.scanDown (fun x=>!Qn x (Sort.swp d a pv)[a]!) (Sort.swp d a pv) (Sort.scanUp (fun x=>Qn x (Sort.swp d a pv)[a]!) (Sort.swp d a pv) (b - 1) (a+1)) (b - 1) - 1) (Sort.swp (Sort.swp d a pv) (Sort.scanUp (fun x=>Qn x (Sort.swp d a pv)[a]!) (Sort.swp d a pv) (b - 1) (a+1)) (Sort.scanDown (fun x=>!Qn x (Sort.swp d a pv)[a]!) (Sort.swp d a pv) (Sort.scanUp (fun x=>Qn x (Sort.swp d a pv)[a]!) (Sort.swp d a pv) (b - 1) (a+1)) (b - 1)))).1 a):=rfl
theorem Qml (a b pv:Nat) (JW:a+1<b) (Q9:b≤d.size) (hp:a≤pv) (OE:pv<b) (hz:d.size<1000000000) :
  QG Tryz.prog 301 h [.ref lo g 0 d.size,Qb a,Qb b,Qb pv] (fun dd h'=>dd=.tup [Qb (Sort.partition Qn d a b pv).1,QN (Sort.partition Qn d a b pv).2.1]∧h'=h.set lo (QO g (Sort.partition Qn d a b pv).2.2)):=by
 have e0:IntKind.i64.wrap ((a:Int)+1)=((a+1:Nat):Int):=by rw[wrap64 (by omega) (by omega)];omega
 have e1:IntKind.i64.wrap ((b:Int) - 1)=((b - 1:Nat):Int):=by rw[wrap64 (by omega) (by omega)];omega
 have pa:a<d.size:=by omega
 have pp:pv<d.size:=by omega
 refine QW Qe 200 Tryz.func301 rfl Tryz.ntmps301 Tryz.results301 rfl fun base w pl hb=>?_
 have Qf:=Qd ho
 simp only[go_sem,simprocAttr,Qa,ho,Qf]
 refine QA Qe hb 200 mixed [(0,true),(1,true),(2,true),(3,true),(4,true),(5,true),(6,true),(7,true),(8,true),(9,true),(10,true),(11,true),(12,true),(13,false),(14,true),(15,false)] (by kernel_rfl) (by kernel_rfl) ?_
 simp only[go_sem,simprocAttr,Qa,ho,Qf,pa,pp,Qw Qf,List.set_set,Xz]
 rw[XA g d _ _ _ rfl pa pp,Qmk]
 refine Qc hb ?_
 simp only[go_sem,simprocAttr,e0,e1]
 generalize hdk:Sort.swp d a pv=dk at *
 have w9:dk.size=d.size:=by rw[← hdk,swp_size]
 have vq:=X9 (g:=g) (d:=dk) Qf
 generalize R4:h.set lo (QO g dk)=Hk at vq
 have vr:=Qd vq
 have Qmn:=Ml (fun x=>Qn x dk[a]!) (fun x=>!Qn x dk[a]!) (fun x=>rfl) dk (a+1) (b - 1) (by omega) (by omega)
 obtain ⟨t1,t2,t3,t4⟩:=Sort.scanUp_spec (fun x=>Qn x dk[a]!) dk (b - 1) _ (a+1) rfl
 have t5:=t2 (by omega)
 generalize Wa:Sort.scanUp (fun x=>Qn x dk[a]!) dk (b - 1) (a+1)=i2 at *
 obtain ⟨s1,s2,s3,s4⟩:=Sort.scanDown_spec (fun x=>!Qn x dk[a]!) dk i2 (b - 1)
 have s5:=s2 t5
 generalize W4:Sort.scanDown (fun x=>!Qn x dk[a]!) dk i2 (b - 1)=j2 at *
 generalize hI0:a+1=I0 at *
 generalize hJ0:b - 1=J0 at *
 rw[show h.set lo (⟨.arr,g,1,dk.size,jX dk⟩:Ob)=Hk from R4]
 refine ZB (fun m st=>∃ xe:Nat,xe=I0+m∧xe≤J0+1∧Sort.scanUp (fun x=>Qn x dk[a]!) dk J0 xe=i2∧st=⟨[(0,.ref lo g 0 d.size),(1,Qb a),(10,Qb xe),(11,Qb J0)],Hk⟩) d.size (s0:=⟨[(0,.ref lo g 0 d.size),(1,Qb a),(10,Qb I0),(11,Qb J0)],Hk⟩) (Ql.frame (by simp only[go_sem,simprocAttr])) ⟨I0,rfl,by omega,Wa,rfl⟩ ?_
 rintro me _ hme ⟨xe,hxe,KB,Gn,rfl⟩
 have ge:xe≤J0→xe<d.size:=by omega
 rw[Sort.scanUp] at Gn
 refine Qc hb ?_
 simp only[go_sem,simprocAttr,Qa,vq,vr]
 first | refine Wc ?_ | skip
 refine jG [0,1,10,11] [(43,QN (decide (xe≤J0) && Qn dk[xe]! dk[a]!))] rfl ?_ ?_
 ·by_cases ce:xe≤J0
  ·have ee:decide (xe≤J0)=true:=decide_eq_true ce
   have g2e:=ge ce
   refine QA Qe hb 200 mixed [(0,true),(1,true),(2,true),(3,true),(4,true),(5,true),(6,true),(7,true),(8,true),(9,true),(10,true),(11,true),(12,false),(13,true)] (by kernel_rfl) (by kernel_rfl) ?_
   simp only[go_sem,simprocAttr,Qa,vq,vr,w9,ee,pa,g2e]
   refine Zo hb Yt rfl ?_ (YB dk[xe]! dk[a]!) (Qm.flat rfl) rfl fun d h hR=>?_
   ·simp only[go_sem,simprocAttr]
   obtain ⟨rfl,rfl⟩:=hR
   refine QF hb ?_
   simp only[go_sem,simprocAttr]
   exact Ql.frame (by simp only[go_sem,simprocAttr])
  ·have ee:decide (xe≤J0)=false:=decide_eq_false ce
   refine QA Qe hb 200 mixed [(0,true),(1,true),(2,true),(3,true),(4,true),(5,true),(6,true),(7,true),(8,true),(9,true),(10,true),(11,true),(12,false),(13,true)] (by kernel_rfl) (by kernel_rfl) ?_
   simp only[go_sem,simprocAttr,Qa,vq,vr,w9,ee,pa]
   exact Ql.frame (by simp only[go_sem,simprocAttr])
 cases hB:(decide (xe≤J0) && Qn dk[xe]! dk[a]!)
 ·rw[hB,if_neg (by decide)] at Gn
  refine Qc hb ?_
  simp only[go_sem,simprocAttr,Qa,hB]
  subst Gn
  refine Qc hb ?_
  simp only[go_sem,simprocAttr,Qa]
  refine ZB (fun m st=>∃ xf:Nat,xf+m=J0∧xe≤xf+1∧Sort.scanDown (fun x=>!Qn x dk[a]!) dk xe xf=j2∧st=⟨[(0,.ref lo g 0 d.size),(1,Qb a),(10,Qb xe),(11,Qb xf)],Hk⟩) d.size (s0:=⟨[(0,.ref lo g 0 d.size),(1,Qb a),(10,Qb xe),(11,Qb J0)],Hk⟩) (Ql.frame (by simp only[go_sem,simprocAttr])) ⟨J0,rfl,by omega,W4,rfl⟩ ?_
  rintro mf _ hmf ⟨xf,hxf,hyf,Gp,rfl⟩
  have gf:xe≤xf→xf<d.size:=by omega
  rw[R0 _ _ _ _ (by omega)] at Gp
  refine Qc hb ?_
  simp only[go_sem,simprocAttr,Qa,vq,vr]
  first | refine Wc ?_ | skip
  refine jG [0,1,10,11] [(60,QN (decide (xe≤xf) && !Qn dk[xf]! dk[a]!))] rfl ?_ ?_
  ·by_cases cf:xe≤xf
   ·have ef:decide (xe≤xf)=true:=decide_eq_true cf
    have g2f:=gf cf
    refine QA Qe hb 200 mixed [(0,true),(1,true),(2,true),(3,true),(4,true),(5,true),(6,true),(7,true),(8,true),(9,true),(10,true),(11,true),(12,false),(13,true),(14,true)] (by kernel_rfl) (by kernel_rfl) ?_
    simp only[go_sem,simprocAttr,Qa,vq,vr,w9,ef,pa,g2f]
    refine Zo hb Yt rfl ?_ (YB dk[xf]! dk[a]!) (Qm.flat rfl) rfl fun d h hR=>?_
    ·simp only[go_sem,simprocAttr]
    obtain ⟨rfl,rfl⟩:=hR
    refine QF hb ?_
    simp only[go_sem,simprocAttr]
    exact Ql.frame (by simp only[go_sem,simprocAttr])
   ·have ef:decide (xe≤xf)=false:=decide_eq_false cf
    refine QA Qe hb 200 mixed [(0,true),(1,true),(2,true),(3,true),(4,true),(5,true),(6,true),(7,true),(8,true),(9,true),(10,true),(11,true),(12,false),(13,true),(14,true)] (by kernel_rfl) (by kernel_rfl) ?_
    simp only[go_sem,simprocAttr,Qa,vq,vr,w9,ef,pa]
    exact Ql.frame (by simp only[go_sem,simprocAttr])
  cases hB:(decide (xe≤xf) && !Qn dk[xf]! dk[a]!)
  ·rw[hB,if_neg (by decide)] at Gp
   refine Qc hb ?_
   simp only[go_sem,simprocAttr,Qa,hB]
   subst Gp
   have vz1:IntKind.i64.wrap ((xe:Int)+1)=((xe+1:Nat):Int):=by rw[wrap64 (by omega) (by omega)];omega
   by_cases cg:xf<xe
   ·have eg:decide (xf<xe)=true:=decide_eq_true cg
    rw[if_pos cg]
    refine Qc hb ?_
    simp only[go_sem,simprocAttr,Qa,eg]
    have py:xf<d.size:=by omega
    refine QA Qe hb 200 mixed [(0,true),(1,true),(2,true),(3,true),(4,true),(5,true),(6,true),(7,true),(8,true),(9,true),(10,true),(11,true),(12,true),(13,false),(14,true),(15,false)] (by kernel_rfl) (by kernel_rfl) ?_
    simp only[go_sem,simprocAttr,Qa,vq,vr,w9,py,pa,Qw vr,List.set_set,Xz]
    rw[XA g dk _ _ _ w9 py pa]
    rw[← R4,List.set_set]
    first | exact ⟨rfl,rfl⟩ | rfl
   ·have eg:decide (xf<xe)=false:=decide_eq_false cg
    have pP:=Qmn cg
    have px:xe<d.size:=by omega
    have py:xf<d.size:=by omega
    have vz2:IntKind.i64.wrap ((xf:Int) - 1)=((xf - 1:Nat):Int):=by rw[wrap64 (by omega) (by omega)];omega
    rw[if_neg cg]
    refine Qc hb ?_
    simp only[go_sem,simprocAttr,Qa,eg]
    refine QA Qe hb 200 mixed [(0,true),(1,true),(2,true),(3,true),(4,true),(5,true),(6,true),(7,true),(8,true),(9,true),(10,true),(11,true),(12,true),(13,false),(14,true),(15,false)] (by kernel_rfl) (by kernel_rfl) ?_
    simp only[go_sem,simprocAttr,Qa,vq,vr,w9,px,py,Qw vr,List.set_set,Xz,vz1,vz2]
    rw[XA g dk _ _ _ w9 px py,← R4,List.set_set]
    refine ZB (fun m st=>∃ (d1:Array Int) (i j:Nat),d1.size=d.size∧a<i∧i≤j+1∧j<b∧m+(j+1 - i)≤b∧Sort.partLoop Qn a i j d1=Sort.partLoop Qn a (xe+1) (xf - 1) (Sort.swp dk xe xf)∧st=⟨[(0,.ref lo g 0 d.size),(1,Qb a),(10,Qb i),(11,Qb j)],h.set lo (QO g d1)⟩) b (s0:=⟨[(0,.ref lo g 0 d.size),(1,Qb a),(10,Qb (xe+1:Nat)),(11,Qb (xf - 1:Nat))],h.set lo (QO g (Sort.swp dk xe xf))⟩) (Ql.frame (by simp only[go_sem,simprocAttr])) ⟨_,xe+1,xf - 1,by rw[swp_size,w9],by omega,by omega,by omega,by omega,rfl,rfl⟩ ?_
    rintro m _ hm ⟨d1,i,j,XB,R3,JN,hjb,Lm,QZ,rfl⟩
    have Wj:=X9 (g:=g) (d:=d1) Qf
    generalize hH:h.set lo (QO g d1)=H at Wj
    have WL:=Qd Wj
    rw[Sort.partLoop_eq] at QZ
    have Bm:=Ml (fun x=>Qn x d1[a]!) (fun x=>!Qn x d1[a]!) (fun x=>rfl) d1 i j (by omega) JN
    obtain ⟨u1,u2,u3,u4⟩:=Sort.scanUp_spec (fun x=>Qn x d1[a]!) d1 j _ i rfl
    have u5:=u2 JN
    generalize Wa:Sort.scanUp (fun x=>Qn x d1[a]!) d1 j i=i2 at *
    obtain ⟨w1,w2,w3,w4⟩:=Sort.scanDown_spec (fun x=>!Qn x d1[a]!) d1 i2 j
    have w5:=w2 u5
    generalize W4:Sort.scanDown (fun x=>!Qn x d1[a]!) d1 i2 j=j2 at *
    refine Qc hb ?_
    simp only[go_sem,simprocAttr,Qa]
    refine ZB (fun m st=>∃ xc:Nat,xc=i+m∧xc≤j+1∧Sort.scanUp (fun x=>Qn x d1[a]!) d1 j xc=i2∧st=⟨[(0,.ref lo g 0 d.size),(1,Qb a),(10,Qb xc),(11,Qb j)],H⟩) d.size (s0:=⟨[(0,.ref lo g 0 d.size),(1,Qb a),(10,Qb i),(11,Qb j)],H⟩) (Ql.frame (by simp only[go_sem,simprocAttr])) ⟨i,rfl,by omega,Wa,rfl⟩ ?_
    rintro mc _ qS ⟨xc,Lo,hyc,vS,rfl⟩
    have gc:xc≤j→xc<d.size:=by omega
    rw[Sort.scanUp] at vS
    refine Qc hb ?_
    simp only[go_sem,simprocAttr,Qa,Wj,WL]
    first | refine Wc ?_ | skip
    refine jG [0,1,10,11] [(112,QN (decide (xc≤j) && Qn d1[xc]! d1[a]!))] rfl ?_ ?_
    ·by_cases cc:xc≤j
     ·have ec:decide (xc≤j)=true:=decide_eq_true cc
      have g2c:=gc cc
      refine QA Qe hb 200 mixed [(0,true),(1,true),(2,true),(3,true),(4,true),(5,true),(6,true),(7,true),(8,true),(9,true),(10,true),(11,true),(12,false),(13,true)] (by kernel_rfl) (by kernel_rfl) ?_
      simp only[go_sem,simprocAttr,Qa,Wj,WL,XB,ec,pa,g2c]
      refine Zo hb Yt rfl ?_ (YB d1[xc]! d1[a]!) (Qm.flat rfl) rfl fun d h hR=>?_
      ·simp only[go_sem,simprocAttr]
      obtain ⟨rfl,rfl⟩:=hR
      refine QF hb ?_
      simp only[go_sem,simprocAttr]
      exact Ql.frame (by simp only[go_sem,simprocAttr])
     ·have ec:decide (xc≤j)=false:=decide_eq_false cc
      refine QA Qe hb 200 mixed [(0,true),(1,true),(2,true),(3,true),(4,true),(5,true),(6,true),(7,true),(8,true),(9,true),(10,true),(11,true),(12,false),(13,true)] (by kernel_rfl) (by kernel_rfl) ?_
      simp only[go_sem,simprocAttr,Qa,Wj,WL,XB,ec,pa]
      exact Ql.frame (by simp only[go_sem,simprocAttr])
    cases hB:(decide (xc≤j) && Qn d1[xc]! d1[a]!)
    ·rw[hB,if_neg (by decide)] at vS
     refine Qc hb ?_
     simp only[go_sem,simprocAttr,Qa,hB]
     subst vS
     refine Qc hb ?_
     simp only[go_sem,simprocAttr,Qa]
     refine ZB (fun m st=>∃ xd:Nat,xd+m=j∧xc≤xd+1∧Sort.scanDown (fun x=>!Qn x d1[a]!) d1 xc xd=j2∧st=⟨[(0,.ref lo g 0 d.size),(1,Qb a),(10,Qb xc),(11,Qb xd)],H⟩) d.size (s0:=⟨[(0,.ref lo g 0 d.size),(1,Qb a),(10,Qb xc),(11,Qb j)],H⟩) (Ql.frame (by simp only[go_sem,simprocAttr])) ⟨j,rfl,by omega,W4,rfl⟩ ?_
     rintro md _ Mm ⟨xd,hxd,Gq,Gr,rfl⟩
     have gd:xc≤xd→xd<d.size:=by omega
     rw[R0 _ _ _ _ (by omega)] at Gr
     refine Qc hb ?_
     simp only[go_sem,simprocAttr,Qa,Wj,WL]
     first | refine Wc ?_ | skip
     refine jG [0,1,10,11] [(129,QN (decide (xc≤xd) && !Qn d1[xd]! d1[a]!))] rfl ?_ ?_
     ·by_cases cd:xc≤xd
      ·have ed:decide (xc≤xd)=true:=decide_eq_true cd
       have g2d:=gd cd
       refine QA Qe hb 200 mixed [(0,true),(1,true),(2,true),(3,true),(4,true),(5,true),(6,true),(7,true),(8,true),(9,true),(10,true),(11,true),(12,false),(13,true),(14,true)] (by kernel_rfl) (by kernel_rfl) ?_
       simp only[go_sem,simprocAttr,Qa,Wj,WL,XB,ed,pa,g2d]
       refine Zo hb Yt rfl ?_ (YB d1[xd]! d1[a]!) (Qm.flat rfl) rfl fun d h hR=>?_
       ·simp only[go_sem,simprocAttr]
       obtain ⟨rfl,rfl⟩:=hR
       refine QF hb ?_
       simp only[go_sem,simprocAttr]
       exact Ql.frame (by simp only[go_sem,simprocAttr])
      ·have ed:decide (xc≤xd)=false:=decide_eq_false cd
       refine QA Qe hb 200 mixed [(0,true),(1,true),(2,true),(3,true),(4,true),(5,true),(6,true),(7,true),(8,true),(9,true),(10,true),(11,true),(12,false),(13,true),(14,true)] (by kernel_rfl) (by kernel_rfl) ?_
       simp only[go_sem,simprocAttr,Qa,Wj,WL,XB,ed,pa]
       exact Ql.frame (by simp only[go_sem,simprocAttr])
     cases hB:(decide (xc≤xd) && !Qn d1[xd]! d1[a]!)
     ·rw[hB,if_neg (by decide)] at Gr
      refine Qc hb ?_
      simp only[go_sem,simprocAttr,Qa,hB]
      have vp:IntKind.i64.wrap ((xc:Int)+1)=((xc+1:Nat):Int):=by rw[wrap64 (by omega) (by omega)];omega
      subst Gr
      by_cases cg:xd<xc
      ·have eg:decide (xd<xc)=true:=decide_eq_true cg
       rw[if_pos cg] at QZ
       refine Qc hb ?_
       simp only[go_sem,simprocAttr,Qa,eg]
       refine Qc hb ?_
       simp only[go_sem,simprocAttr,Qa]
       have py:xd<d.size:=by omega
       refine QA Qe hb 200 mixed [(0,true),(1,true),(2,true),(3,true),(4,true),(5,true),(6,true),(7,true),(8,true),(9,true),(10,true),(11,true),(12,true),(13,false),(14,true),(15,false)] (by kernel_rfl) (by kernel_rfl) ?_
       simp only[go_sem,simprocAttr,Qa,Wj,WL,XB,py,pa,Qw WL,List.set_set,Xz]
       rw[XA g d1 _ _ _ XB py pa]
       rw[← QZ,← hH,List.set_set]
       first | exact ⟨rfl,rfl⟩ | rfl
      ·have eg:decide (xd<xc)=false:=decide_eq_false cg
       have pP:=Bm cg
       have px:xc<d.size:=by omega
       have py:xd<d.size:=by omega
       have Gm:IntKind.i64.wrap ((xd:Int) - 1)=((xd - 1:Nat):Int):=by rw[wrap64 (by omega) (by omega)];omega
       rw[if_neg cg] at QZ
       refine Qc hb ?_
       simp only[go_sem,simprocAttr,Qa,eg]
       refine QA Qe hb 200 mixed [(0,true),(1,true),(2,true),(3,true),(4,true),(5,true),(6,true),(7,true),(8,true),(9,true),(10,true),(11,true),(12,true),(13,false),(14,true),(15,false)] (by kernel_rfl) (by kernel_rfl) ?_
       simp only[go_sem,simprocAttr,Qa,Wj,WL,XB,px,py,Qw WL,List.set_set,Xz,vp,Gm]
       rw[XA g d1 _ _ _ XB px py]
       refine ⟨by omega,_,?_,Sort.swp d1 xc xd,xc+1,xd - 1,by rw[swp_size,XB],by omega,by omega,by omega,by omega,QZ,rfl⟩
       rw[← hH,List.set_set]
       exact Ql.frame (by simp only[go_sem,simprocAttr])
     ·rw[hB,if_pos rfl] at Gr
      have lqd:xc≤xd:=by
       rw[Bool.and_eq_true] at hB
       exact of_decide_eq_true hB.1
      have vd:IntKind.i64.wrap ((xd:Int) - 1)=((xd - 1:Nat):Int):=by rw[wrap64 (by omega) (by omega)];omega
      refine Qc hb ?_
      simp only[go_sem,simprocAttr,Qa,hB,vd]
      refine ⟨by omega,_,?_,xd - 1,by omega,by omega,Gr,rfl⟩
      exact Ql.frame (by simp only[go_sem,simprocAttr])
    ·rw[hB,if_pos rfl] at vS
     have lqc:xc≤j:=by
      rw[Bool.and_eq_true] at hB
      exact of_decide_eq_true hB.1
     have vc:IntKind.i64.wrap ((xc:Int)+1)=((xc+1:Nat):Int):=by rw[wrap64 (by omega) (by omega)];omega
     refine Qc hb ?_
     simp only[go_sem,simprocAttr,Qa,hB,vc]
     refine ⟨by omega,_,?_,xc+1,by omega,by omega,vS,rfl⟩
     exact Ql.frame (by simp only[go_sem,simprocAttr])
  ·rw[hB,if_pos rfl] at Gp
   have lqf:xe≤xf:=by
    rw[Bool.and_eq_true] at hB
    exact of_decide_eq_true hB.1
   have vf:IntKind.i64.wrap ((xf:Int) - 1)=((xf - 1:Nat):Int):=by rw[wrap64 (by omega) (by omega)];omega
   refine Qc hb ?_
   simp only[go_sem,simprocAttr,Qa,hB,vf]
   refine ⟨by omega,_,?_,xf - 1,by omega,by omega,Gp,rfl⟩
   exact Ql.frame (by simp only[go_sem,simprocAttr])
 ·rw[hB,if_pos rfl] at Gn
  have lqe:xe≤J0:=by
   rw[Bool.and_eq_true] at hB
   exact of_decide_eq_true hB.1
  have ve:IntKind.i64.wrap ((xe:Int)+1)=((xe+1:Nat):Int):=by rw[wrap64 (by omega) (by omega)];omega
  refine Qc hb ?_
  simp only[go_sem,simprocAttr,Qa,hB,ve]
  refine ⟨by omega,_,?_,xe+1,by omega,by omega,Gn,rfl⟩
  exact Ql.frame (by simp only[go_sem,simprocAttr])
end
theorem R5:∀ (j:Nat) (d:Array Int),(Sort.shiftDown Qn j d).size=d.size
 | 0,d=>rfl
 | j+1,d=>by rw[Sort.shiftDown];split;rfl;rw[R5 j,swp_size]
theorem pQ (b:Nat):∀ (n j:Nat) (d:Array Int),b - j≤n→(Sort.shiftUp Qn b j d).size=d.size
 | n,j,d,hn=>by
  rw[Sort.shiftUp]
  split
  ·split
   ·rfl
   ·obtain ⟨n',rfl⟩:∃ n',n=n'+1:=⟨n - 1,by omega⟩
    rw[pQ b n' _ _ (by omega),swp_size]
  ·rfl
theorem pR (d:Array Int) (b:Nat):∀ (n i:Nat),b - i≤n→i≤b→i≤Sort.scanSorted Qn d b i∧Sort.scanSorted Qn d b i≤b
 | n,i,hn,hi=>by
  rw[Sort.scanSorted]
  split
  ·rename_i c
   simp at c
   obtain ⟨n',rfl⟩:∃ n',n=n'+1:=⟨n - 1,by omega⟩
   have:=pR d b n' (i+1) (by omega) (by omega)
   omega
  ·omega
section
variable {h:List Ob} {lo g:Nat} {d:Array Int} (ho:h[lo]? = some (QO g d))
include ho
theorem Qmv (a b:Nat) (JW:a<b) (Q9:b≤d.size) (hz:d.size<1000000000) :
  QG Tryz.prog 298 h [.ref lo g 0 d.size,Qb a,Qb b] (fun dd h'=>dd=QN (Sort.partialInsertionSort Qn d a b).2∧h'=h.set lo (QO g (Sort.partialInsertionSort Qn d a b).1)):=by
 have e0:IntKind.i64.wrap ((a:Int)+1)=((a+1:Nat):Int):=by rw[wrap64 (by omega) (by omega)];omega
 have pS:IntKind.i64.wrap ((b:Int) - a)=((b - a:Nat):Int):=by rw[wrap64 (by omega) (by omega)];omega
 unfold Sort.partialInsertionSort
 refine QW Qe 200 Tryz.func298 rfl Tryz.ntmps298 Tryz.results298 rfl fun base w pl hb=>?_
 have Qf:=Qd ho
 simp only[go_sem,simprocAttr,Qa,ho,Qf,e0]
 refine ZB (fun m st=>∃ (d1:Array Int) (x:Nat),d1.size=d.size∧a+1≤x∧x≤b∧m≤5∧Sort.partialIns Qn a b (5 - m) x d1=Sort.partialIns Qn a b 5 (a+1) d∧st=⟨[(0,.ref lo g 0 d.size),(1,Qb a),(2,Qb b),(7,Qb x),(8,Qb m)],h.set lo (QO g d1)⟩) 5 (s0:=⟨[(0,.ref lo g 0 d.size),(1,Qb a),(2,Qb b),(7,Qb (a+1:Nat)),(8,Qb 0)],h.set lo (QO g d)⟩) ?_ ⟨d,a+1,rfl,by omega,by omega,by omega,rfl,rfl⟩ ?_
 ·rw[YC ho]
  exact Ql.frame (by simp only[go_sem,simprocAttr])
 rintro m _ hm ⟨d1,i,Zf,R3,pT,pU,VL,rfl⟩
 have Ze:=X9 (g:=g) (d:=d1) Qf
 generalize hH:h.set lo (QO g d1)=H at Ze
 have Jk:=Qd Ze
 by_cases cm:m<5
 ·have em:decide ((m:Int)<5)=true:=decide_eq_true (by omega)
  obtain ⟨sq,hsm⟩:∃ s,5 - m=s+1:=⟨5 - m - 1,by omega⟩
  have R8:4 - m=sq:=by omega
  rw[hsm,Sort.partialIns] at VL
  dsimp only at VL
  obtain ⟨k1,k2⟩:=pR d1 b _ i (Nat.le_refl _) pT
  generalize hK:Sort.scanSorted Qn d1 b i=K at *
  refine Qc hb ?_
  simp only[go_sem,simprocAttr,Qa,Ze,Jk,em]
  refine ZB (fun n st=>∃ x:Nat,x=i+n∧x≤b∧Sort.scanSorted Qn d1 b x=K∧st=⟨[(0,.ref lo g 0 d.size),(1,Qb a),(2,Qb b),(7,Qb x),(8,Qb m)],H⟩) d.size (s0:=⟨[(0,.ref lo g 0 d.size),(1,Qb a),(2,Qb b),(7,Qb i),(8,Qb m)],H⟩) (Ql.frame (by simp only[go_sem,simprocAttr])) ⟨i,rfl,pT,hK,rfl⟩ ?_
  rintro n0 _ qT ⟨x,hx,kx,Gs,rfl⟩
  have R9:IntKind.i64.wrap ((x:Int) - 1)=((x - 1:Nat):Int):=by rw[wrap64 (by omega) (by omega)];omega
  have Sa:x - 1<d.size:=by omega
  have gx:x<b→x<d.size:=by omega
  rw[Sort.scanSorted] at Gs
  refine Qc hb ?_
  simp only[go_sem,simprocAttr,Qa,Ze,Jk]
  first | refine Wc ?_ | skip
  refine jG [0,1,2,7,8] [(32,QN (decide (x<b) && !Qn d1[x]! d1[x - 1]!))] rfl ?_ ?_
  ·by_cases cx:x<b
   ·have ex:decide (x<b)=true:=decide_eq_true cx
    have gx2:=gx cx
    refine QA Qe hb 200 mixed [(0,true),(1,true),(2,true),(3,true),(4,true),(5,true),(6,true),(7,true),(8,true),(9,true),(10,true),(11,true),(12,true),(13,false),(14,true),(15,true)] (by kernel_rfl) (by kernel_rfl) ?_
    simp only[go_sem,simprocAttr,Qa,Ze,Jk,Zf,ex,R9,Sa,gx2]
    refine Zo hb Yt rfl ?_ (YB d1[x]! d1[x - 1]!) (Qm.flat rfl) rfl fun d h hR=>?_
    ·simp only[go_sem,simprocAttr]
    obtain ⟨rfl,rfl⟩:=hR
    refine QF hb ?_
    simp only[go_sem,simprocAttr]
    exact Ql.frame (by simp only[go_sem,simprocAttr])
   ·have ex:decide (x<b)=false:=decide_eq_false cx
    refine QA Qe hb 200 mixed [(0,true),(1,true),(2,true),(3,true),(4,true),(5,true),(6,true),(7,true),(8,true),(9,true),(10,true),(11,true),(12,true),(13,false),(14,true),(15,true)] (by kernel_rfl) (by kernel_rfl) ?_
    simp only[go_sem,simprocAttr,Qa,Ze,Jk,Zf,ex]
    exact Ql.frame (by simp only[go_sem,simprocAttr])
  cases hB:(decide (x<b) && !Qn d1[x]! d1[x - 1]!)
  ·rw[hB,if_neg (by decide)] at Gs
   subst Gs
   refine Qc hb ?_
   simp only[go_sem,simprocAttr,Qa,hB]
   by_cases cb:x=b
   ·have Mn:((x:Int) == (b:Int))=true:=by rw[cb];exact beq_self_eq_true _
    rw[if_pos cb] at VL
    refine Qc hb ?_
    simp only[go_sem,simprocAttr,Qa,Mn]
    rw[← VL,← hH]
    first | exact ⟨rfl,rfl⟩ | rfl
   ·have Mn:((x:Int) == (b:Int))=false:=beq_eq_false_iff_ne.mpr (by omega)
    rw[if_neg cb] at VL
    by_cases Gi:b - a<50
    ·have Sb:decide (((b - a:Nat):Int)<50)=true:=decide_eq_true (by omega)
     rw[if_pos Gi] at VL
     refine Qc hb ?_
     simp only[go_sem,simprocAttr,Qa,Mn,pS,Sb]
     rw[← VL,← hH]
     first | exact ⟨rfl,rfl⟩ | rfl
    ·have Sb:decide (((b - a:Nat):Int)<50)=false:=decide_eq_false (by omega)
     rw[if_neg Gi] at VL
     have px:x<d.size:=by omega
     refine Qc hb ?_
     simp only[go_sem,simprocAttr,Qa,Mn,pS,Sb]
     refine wX (⟨[(0,.ref lo g 0 d.size),(1,Qb a),(2,Qb b),(7,Qb x),(8,Qb m)],h.set lo (QO g (Sort.swp d1 x (x - 1)))⟩) Qe hb mixed [(0,true),(1,true),(2,true),(3,true),(5,true),(6,true),(7,true),(8,true),(9,true),(10,true),(11,true),(12,true),(13,true),(14,true)] [4,15,16,17] (by kernel_rfl) (by kernel_rfl) (fun s hw=>jW hw rfl ?_) ?_
     rotate_left
     ·simp only[go_sem,simprocAttr,Qa,Ze,Jk,R9,px,Sa,Zf,Qw Jk,List.set_set,Xz]
      rw[XA g d1 _ _ _ Zf px Sa,← hH,List.set_set]
      repeat' refine And.intro ?_ ?_
      all_goals exact Ql.frame (by simp only[go_sem,simprocAttr])
     generalize Jz:Sort.swp d1 x (x - 1)=d2 at *
     have Jf:d2.size=d.size:=by rw[← Jz,swp_size,Zf]
     have Jd:=X9 (g:=g) (d:=d2) Qf
     have pV:IntKind.i64.wrap ((x:Int) - a)=((x - a:Nat):Int):=by rw[wrap64 (by omega) (by omega)];omega
     have pW:IntKind.i64.wrap ((b:Int) - x)=((b - x:Nat):Int):=by rw[wrap64 (by omega) (by omega)];omega
     have Sc:IntKind.i64.wrap ((x:Int)+1)=((x+1:Nat):Int):=by rw[wrap64 (by omega) (by omega)];omega
     generalize Gt:(if x - a ≥ 2 then Sort.shiftDown Qn (x - 1) d2 else d2)=d3 at *
     have Gj:d3.size=d.size:=by
      rw[← Gt]
      split
      ·rw[R5,Jf]
      ·exact Jf
     first | refine Wc ?_ | skip
     refine Pj (⟨[(0,.ref lo g 0 d.size),(1,Qb a),(2,Qb b),(7,Qb x),(8,Qb m)],h.set lo (QO g d3)⟩) ?_ ?_
     ·by_cases pX:x - a ≥ 2
      ·have Sd:decide ((2:Int)≤((x - a:Nat):Int))=true:=decide_eq_true (by omega)
       rw[if_pos pX] at Gt
       refine Qc hb ?_
       simp only[go_sem,simprocAttr,Qa,pV,Sd,R9]
       rw[← Gt]
       refine ZB (fun n st=>∃ (dd:Array Int) (y:Nat),dd.size=d.size∧y+n=x - 1∧Sort.shiftDown Qn y dd=Sort.shiftDown Qn (x - 1) d2∧st=⟨[(0,.ref lo g 0 d.size),(1,Qb a),(2,Qb b),(7,Qb x),(8,Qb m),(9,Qb y)],h.set lo (QO g dd)⟩) d.size (s0:=⟨[(0,.ref lo g 0 d.size),(1,Qb a),(2,Qb b),(7,Qb x),(8,Qb m),(9,Qb (x - 1:Nat))],h.set lo (QO g d2)⟩) (Ql.frame (by simp only[go_sem,simprocAttr])) ⟨d2,_,Jf,by omega,rfl,rfl⟩ ?_
       rintro n _ hn ⟨dd,y,jY,hy,ZT,rfl⟩
       have qU:=X9 (g:=g) (d:=dd) Qf
       generalize jZ:h.set lo (QO g dd)=Hd at qU
       have j0:=Qd qU
       by_cases cy:1≤y
       ·have ey:decide ((1:Int)≤(y:Int))=true:=decide_eq_true (by omega)
        obtain ⟨y',rfl⟩:∃ y',y=y'+1:=⟨y - 1,by omega⟩
        rw[Sort.shiftDown] at ZT
        have vp:IntKind.i64.wrap (((y'+1:Nat):Int) - 1)=((y':Nat):Int):=by rw[wrap64 (by omega) (by omega)];omega
        have q1:(y'+1)<d.size:=by omega
        have q2:y'<d.size:=by omega
        refine Qc hb ?_
        simp only[go_sem,simprocAttr,Qa,qU,j0,ey]
        refine QA Qe hb 200 mixed [(0,true),(1,true),(2,true),(3,true),(4,true),(5,true),(6,true),(7,true),(8,true),(9,false),(10,true)] (by kernel_rfl) (by kernel_rfl) ?_
        simp only[go_sem,simprocAttr,Qa,qU,j0,jY,vp,q1,q2]
        refine Zo hb Yt rfl ?_ (YB dd[y'+1]! dd[y']!) (Qm.flat rfl) rfl fun d h hR=>?_
        ·simp only[go_sem,simprocAttr]
        obtain ⟨rfl,rfl⟩:=hR
        refine QF hb ?_
        simp only[go_sem,simprocAttr]
        cases hl:Qn dd[y'+1]! dd[y']!
        ·rw[hl,Bool.not_false,if_pos rfl] at ZT
         simp only[go_sem,simprocAttr,hl]
         try (refine Qc hb ?_;simp only[go_sem,simprocAttr,Qa])
         first | rw[← ZT,← jZ] | rw[← jZ]
         exact Ql.frame (by simp only[go_sem,simprocAttr])
        ·rw[hl,Bool.not_true,if_neg (by decide)] at ZT
         simp only[go_sem,simprocAttr,hl]
         refine wX (⟨[(0,.ref lo g 0 d.size),(1,Qb a),(2,Qb b),(7,Qb x),(8,Qb m),(9,Qb (y'+1:Nat))],h.set lo (QO g (Sort.swp dd (y'+1) y'))⟩) Qe hb mixed [(0,true),(1,true),(2,true),(3,true),(5,true),(6,true),(7,true),(8,true),(9,true),(10,true),(11,true),(12,true),(13,true),(14,true)] [4,15,16,17] (by kernel_rfl) (by kernel_rfl) (fun s hw=>jW hw rfl ?_) ?_
         rotate_left
         ·simp only[go_sem,simprocAttr,Qa,qU,j0,jY,vp,q1,q2,Qw j0,List.set_set,Xz]
          rw[XA g dd _ _ _ jY q1 q2,← jZ,List.set_set]
          repeat' refine And.intro ?_ ?_
          all_goals exact Ql.frame (by simp only[go_sem,simprocAttr])
         refine Qc hb ?_
         simp only[go_sem,simprocAttr,vp]
         refine ⟨by omega,_,?_,Sort.swp dd (y'+1) y',y',by rw[swp_size,jY],by omega,ZT,rfl⟩
         exact Ql.frame (by simp only[go_sem,simprocAttr])
       ·have ey:decide ((1:Int)≤(y:Int))=false:=decide_eq_false (by omega)
        obtain rfl:y=0:=by omega
        rw[Sort.shiftDown] at ZT
        refine Qc hb ?_
        simp only[go_sem,simprocAttr,Qa,qU,j0,ey]
        try (refine Qc hb ?_;simp only[go_sem,simprocAttr,Qa])
        first | rw[← ZT,← jZ] | rw[← jZ]
        exact Ql.frame (by simp only[go_sem,simprocAttr])
      ·have Sd:decide ((2:Int)≤((x - a:Nat):Int))=false:=decide_eq_false (by omega)
       rw[if_neg pX] at Gt
       refine Qc hb ?_
       simp only[go_sem,simprocAttr,Qa,pV,Sd]
       rw[← Gt]
       exact Ql.frame (by simp only[go_sem,simprocAttr])
     have Se:IntKind.i64.wrap ((m:Int)+1)=((m+1:Nat):Int):=by rw[wrap64 (by omega) (by omega)];omega
     by_cases pY:b - x ≥ 2
     ·have Sf:decide ((2:Int)≤((b - x:Nat):Int))=true:=decide_eq_true (by omega)
      rw[if_pos pY] at VL
      refine Qc hb ?_
      simp only[go_sem,simprocAttr,Qa,pW,Sf,Sc]
      refine ZB (fun n st=>∃ (dd:Array Int) (y:Nat),dd.size=d.size∧y=x+1+n∧y≤b∧Sort.shiftUp Qn b y dd=Sort.shiftUp Qn b (x+1) d3∧st=⟨[(0,.ref lo g 0 d.size),(1,Qb a),(2,Qb b),(7,Qb x),(8,Qb m),(10,Qb y)],h.set lo (QO g dd)⟩) d.size (s0:=⟨[(0,.ref lo g 0 d.size),(1,Qb a),(2,Qb b),(7,Qb x),(8,Qb m),(10,Qb (x+1:Nat))],h.set lo (QO g d3)⟩) (Ql.frame (by simp only[go_sem,simprocAttr])) ⟨d3,_,Gj,by omega,by omega,rfl,rfl⟩ ?_
      rintro n _ hn ⟨dd,y,jY,hy,hyb,ZT,rfl⟩
      have qU:=X9 (g:=g) (d:=dd) Qf
      generalize jZ:h.set lo (QO g dd)=Hd at qU
      have j0:=Qd qU
      by_cases cy:y<b
      ·have ey:decide (y<b)=true:=decide_eq_true (by omega)
       rw[Sort.shiftUp,if_pos cy] at ZT
       have vp:IntKind.i64.wrap ((y:Int) - 1)=((y - 1:Nat):Int):=by rw[wrap64 (by omega) (by omega)];omega
       have Gm:IntKind.i64.wrap ((y:Int)+1)=((y+1:Nat):Int):=by rw[wrap64 (by omega) (by omega)];omega
       have q1:y<d.size:=by omega
       have q2:(y - 1)<d.size:=by omega
       refine Qc hb ?_
       simp only[go_sem,simprocAttr,Qa,qU,j0,ey]
       refine QA Qe hb 200 mixed [(0,true),(1,true),(2,true),(3,true),(4,true),(5,true),(6,true),(7,true),(8,true),(9,false),(10,true)] (by kernel_rfl) (by kernel_rfl) ?_
       simp only[go_sem,simprocAttr,Qa,qU,j0,jY,vp,q1,q2]
       refine Zo hb Yt rfl ?_ (YB dd[y]! dd[y - 1]!) (Qm.flat rfl) rfl fun d h hR=>?_
       ·simp only[go_sem,simprocAttr]
       obtain ⟨rfl,rfl⟩:=hR
       refine QF hb ?_
       simp only[go_sem,simprocAttr]
       cases hl:Qn dd[y]! dd[y - 1]!
       ·rw[hl,Bool.not_false,if_pos rfl] at ZT
        simp only[go_sem,simprocAttr,hl]
        try (refine Qc hb ?_;simp only[go_sem,simprocAttr,Qa])
        first | rw[← ZT,← jZ] | rw[← jZ]
        try simp only[Se]
        refine ⟨by omega,_,?_,dd,x,jY,by omega,by omega,by omega,by rw[R8,ZT];exact VL,rfl⟩
        exact Ql.frame (by simp only[go_sem,simprocAttr])
       ·rw[hl,Bool.not_true,if_neg (by decide)] at ZT
        simp only[go_sem,simprocAttr,hl]
        refine wX (⟨[(0,.ref lo g 0 d.size),(1,Qb a),(2,Qb b),(7,Qb x),(8,Qb m),(10,Qb (y:Nat))],h.set lo (QO g (Sort.swp dd y (y - 1)))⟩) Qe hb mixed [(0,true),(1,true),(2,true),(3,true),(5,true),(6,true),(7,true),(8,true),(9,true),(10,true),(11,true),(12,true),(13,true),(14,true)] [4,15,16,17] (by kernel_rfl) (by kernel_rfl) (fun s hw=>jW hw rfl ?_) ?_
        rotate_left
        ·simp only[go_sem,simprocAttr,Qa,qU,j0,jY,vp,q1,q2,Qw j0,List.set_set,Xz]
         rw[XA g dd _ _ _ jY q1 q2,← jZ,List.set_set]
         repeat' refine And.intro ?_ ?_
         all_goals exact Ql.frame (by simp only[go_sem,simprocAttr])
        refine Qc hb ?_
        simp only[go_sem,simprocAttr,Gm]
        refine ⟨by omega,_,?_,Sort.swp dd y (y - 1),y+1,by rw[swp_size,jY],by omega,by omega,ZT,rfl⟩
        exact Ql.frame (by simp only[go_sem,simprocAttr])
      ·have ey:decide (y<b)=false:=decide_eq_false (by omega)
       rw[Sort.shiftUp,if_neg cy] at ZT
       refine Qc hb ?_
       simp only[go_sem,simprocAttr,Qa,qU,j0,ey]
       try (refine Qc hb ?_;simp only[go_sem,simprocAttr,Qa])
       first | rw[← ZT,← jZ] | rw[← jZ]
       try simp only[Se]
       refine ⟨by omega,_,?_,dd,x,jY,by omega,by omega,by omega,by rw[R8,ZT];exact VL,rfl⟩
       exact Ql.frame (by simp only[go_sem,simprocAttr])
     ·have Sf:decide ((2:Int)≤((b - x:Nat):Int))=false:=decide_eq_false (by omega)
      rw[if_neg pY] at VL
      refine Qc hb ?_
      simp only[go_sem,simprocAttr,Qa,pW,Sf,Se]
      refine ⟨by omega,_,?_,d3,x,Gj,by omega,by omega,by omega,by rw[R8];exact VL,rfl⟩
      exact Ql.frame (by simp only[go_sem,simprocAttr])
  ·rw[hB,if_pos rfl] at Gs
   have lq:x<b:=by
    rw[Bool.and_eq_true] at hB
    exact of_decide_eq_true hB.1
   have Sc:IntKind.i64.wrap ((x:Int)+1)=((x+1:Nat):Int):=by rw[wrap64 (by omega) (by omega)];omega
   refine Qc hb ?_
   simp only[go_sem,simprocAttr,Qa,hB,Sc]
   refine ⟨by omega,_,?_,x+1,by omega,by omega,Gs,rfl⟩
   exact Ql.frame (by simp only[go_sem,simprocAttr])
 ·have em:decide ((m:Int)<5)=false:=decide_eq_false (by omega)
  obtain rfl:m=5:=by omega
  rw[Nat.sub_self,Sort.partialIns] at VL
  refine Qc hb ?_
  simp only[go_sem,simprocAttr,Qa,Ze,Jk,em]
  refine Qc hb ?_
  simp only[go_sem,simprocAttr,Qa]
  rw[← VL,← hH]
  first | exact ⟨rfl,rfl⟩ | rfl
end
theorem Mp (n k:Nat) (h:2 ^ k≤n):Sort.bitsLen n=k+Sort.bitsLen (n / 2 ^ k):=by
 have e:∀ m,Sort.bitsLen n≤m↔k+Sort.bitsLen (n / 2 ^ k)≤m:=by
  intro m
  rw[Sort.bitsLen_le_iff]
  by_cases c:k≤m
  ·obtain ⟨j,rfl⟩:∃ j,m=k+j:=⟨m - k,by omega⟩
   have h2:=Sort.bitsLen_le_iff (n / 2 ^ k) j
   rw[Nat.div_lt_iff_lt_mul (Nat.two_pow_pos k),← Nat.pow_add,Nat.add_comm j k] at h2
   rw[← h2]
   omega
  ·have:2 ^ m≤2 ^ k:=Nat.pow_le_pow_right (by decide) (by omega)
   constructor
   ·intro hh;omega
   ·intro hh;omega
 have a1:=(e (Sort.bitsLen n)).1 (Nat.le_refl _)
 have a2:=(e (k+Sort.bitsLen (n / 2 ^ k))).2 (Nat.le_refl _)
 omega
theorem Mq (t:Array UInt8) (ht:(List.range 256).all (fun i=>Nat.beq (t.getD i 0).toNat (Sort.bitsLen i))=true) (hs:t.size=256) (k i n:Nat) (hi:i<256) (hk:k<1000) (hn:Sort.bitsLen n=k+Sort.bitsLen i) :
  IntKind.u8.wrap (i:Int)<(t.size:Int)∧D.raw (.int .i64 (IntKind.i64.wrap ((k:Int)+IntKind.i64.wrap ((t.getD (IntKind.u8.wrap (i:Int)).toNat 0).toNat:Int))))=D.raw (.int .i64 (Sort.bitsLen n)):=by
 have h1:=List.all_eq_true.1 ht i (List.mem_range.2 hi)
 rw[Nat.beq_eq] at h1
 have w:IntKind.u8.wrap (i:Int)=i:=by rw[IntKind.wrap_u8];omega
 rw[w,hs,show ((i:Int)).toNat=i from rfl,h1,hn]
 have h2:Sort.bitsLen i≤8:=(Sort.bitsLen_le_iff i 8).2 (by omega)
 refine ⟨by omega,?_⟩
 have w2:IntKind.i64.wrap (Sort.bitsLen i:Int)=Sort.bitsLen i:=wrap64 (by omega) (by omega)
 rw[w2,wrap64 (by omega) (by omega)]
 congr 2
theorem Qmy (n:Nat) (hn:n<4294967296):Q7 Tryz.prog 242 [u64 n] (Qm (Qb (Sort.bitsLen n))):=by
 have e1:decide ((4294967296:Int)≤n)=false:=decide_eq_false (by omega)
 refine Zk 0 Qe 200 Tryz.func242 rfl Tryz.ntmps242 Tryz.results242 rfl fun base w hb=>?_
 simp only[go_sem,simprocAttr]
 have s1:((n:Int).fdiv (2 ^ min 16 64))=((n / 65536:Nat):Int):=AZ n 16
 have s2:∀ m:Nat,((m:Int).fdiv (2 ^ min 8 64))=((m / 256:Nat):Int):=fun m=>AZ m 8
 have pZ:IntKind.i64.wrap 16=16:=rfl
 have Sg:IntKind.i64.wrap 24=24:=rfl
 have w8:IntKind.i64.wrap 8=8:=rfl
 by_cases c1:65536≤n
 ·have d1:decide ((65536:Int)≤n)=true:=decide_eq_true (by omega)
  by_cases c2:256≤n / 65536
  ·have d2:decide ((256:Int)≤(n / 65536:Nat))=true:=decide_eq_true (by omega)
   simp only[go_sem,simprocAttr,e1,d1,s1,d2,s2,pZ,Sg]
   exact Mq _ (by kernel_rfl) (by kernel_rfl) 24 (n / 65536 / 256) n (by omega) (by decide) (by rw[Mp n 16 (by omega),Mp (n / 2 ^ 16) 8 (by omega),show n / 2 ^ 16 / 2 ^ 8=n / 65536 / 256 from rfl];omega)
  ·have d2:decide ((256:Int)≤(n / 65536:Nat))=false:=decide_eq_false (by omega)
   simp only[go_sem,simprocAttr,e1,d1,s1,d2,s2,pZ,Sg]
   exact Mq _ (by kernel_rfl) (by kernel_rfl) 16 (n / 65536) n (by omega) (by decide) (by rw[Mp n 16 (by omega)])
 ·have d1:decide ((65536:Int)≤n)=false:=decide_eq_false (by omega)
  by_cases c2:256≤n
  ·have d2:decide ((256:Int)≤n)=true:=decide_eq_true (by omega)
   simp only[go_sem,simprocAttr,e1,d1,s1,d2,s2,w8,Sg]
   exact Mq _ (by kernel_rfl) (by kernel_rfl) 8 (n / 256) n (by omega) (by decide) (by rw[Mp n 8 (by omega)])
  ·have d2:decide ((256:Int)≤n)=false:=decide_eq_false (by omega)
   simp only[go_sem,simprocAttr,e1,d1,s1,d2,s2]
   exact Mq _ (by kernel_rfl) (by kernel_rfl) 0 n n (by omega) (by decide) (by omega)
theorem HB (n:Nat) (hn:n<4294967296):Q7 Tryz.prog 191 [u64 n] (Qm (Qb (Sort.bitsLen n))):=by
 refine Zk 0 Qe 200 Tryz.func191 rfl Tryz.ntmps191 Tryz.results191 rfl fun base w hb=>?_
 simp only[go_sem,simprocAttr]
 refine QM hb QiL rfl ?_ (Qmy n hn) (Qm.flat rfl) rfl fun d h hR=>?_
 ·simp only[go_sem,simprocAttr]
 obtain ⟨rfl,rfl⟩:=hR
 refine Qc hb ?_
 simp only[go_sem,simprocAttr]
theorem Qmz (n:Nat) (hn:n<1000000000):Q7 Tryz.prog 278 [Qb n] (Qm (u64 (2 ^ Sort.bitsLen n))):=by
 have w1:IntKind.u64.wrap (n:Int)=(n:Int):=by rw[IntKind.wrap_u64];omega
 have hb:=(Sort.bitsLen_le_iff n 30).2 (by omega)
 have hp:2 ^ Sort.bitsLen n≤2 ^ 30:=Nat.pow_le_pow_right (by decide) hb
 have w2:IntKind.u64.wrap (1*2 ^ min (Sort.bitsLen n) 64)=((2 ^ Sort.bitsLen n:Nat):Int):=by
  rw[Nat.min_eq_left (by omega),Int.one_mul,show (2:Int) ^ Sort.bitsLen n=((2 ^ Sort.bitsLen n:Nat):Int) by push_cast;rfl,IntKind.wrap_u64]
  generalize 2 ^ Sort.bitsLen n=p at *
  omega
 refine Zk 0 Qe 200 Tryz.func278 rfl Tryz.ntmps278 Tryz.results278 rfl fun base w hb=>?_
 simp only[go_sem,simprocAttr]
 simp only[go_sem,simprocAttr,w1]
 refine QM hb mC rfl ?_ (HB n (by omega)) (Qm.flat rfl) rfl fun d h hR=>?_
 ·simp only[go_sem,simprocAttr,w2]
 obtain ⟨rfl,rfl⟩:=hR
 refine Qc hb ?_
 simp only[go_sem,simprocAttr,w2]
@[go_sem] def yJ (n:Nat):Ob:=⟨.one,0,1,1,fun _=>[u64 n]⟩
theorem QmA {h:List Ob} {sp:Nat} (n:Nat) (Xy:h[sp]? = some (yJ n)) (hn:n<18446744073709551616) :
  QG Tryz.prog 279 h [.ptr sp 0 0 0] (fun dd h'=>dd=u64 (Sort.xorNextN n)∧h'=h.set sp (yJ (Sort.xorNextN n))):=by
 refine QW Qe 200 Tryz.func279 rfl Tryz.ntmps279 Tryz.results279 rfl fun base w pl hb=>?_
 have YD:=Qd Xy
 simp only[go_sem,simprocAttr,Qa,Xy,YD]
 have x1:∀ a:Nat,a<18446744073709551616→bits .xor .u64 (a:Int) (IntKind.u64.wrap ((a:Int)*2 ^ min 13 64))=((a ^^^ (a*8192 % 18446744073709551616):Nat):Int):=fun a ha=>by
  rw[show IntKind.u64.wrap ((a:Int)*2 ^ min 13 64)=((a*8192 % 18446744073709551616:Nat):Int) from FL a 8192]
  exact u64_xor_nat _ _ ha (Nat.mod_lt _ (by decide))
 have x2:∀ a:Nat,a<18446744073709551616→bits .xor .u64 (a:Int) ((a:Int).fdiv (2 ^ min 7 64))=((a ^^^ (a / 128):Nat):Int):=fun a ha=>by
  rw[show (a:Int).fdiv (2 ^ min 7 64)=((a / 128:Nat):Int) from AZ a 7]
  exact u64_xor_nat _ _ ha (by omega)
 have x3:∀ a:Nat,a<18446744073709551616→bits .xor .u64 (a:Int) (IntKind.u64.wrap ((a:Int)*2 ^ min 17 64))=((a ^^^ (a*131072 % 18446744073709551616):Nat):Int):=fun a ha=>by
  rw[show IntKind.u64.wrap ((a:Int)*2 ^ min 17 64)=((a*131072 % 18446744073709551616:Nat):Int) from FL a 131072]
  exact u64_xor_nat _ _ ha (Nat.mod_lt _ (by decide))
 have ha:n ^^^ (n*8192 % 18446744073709551616)<18446744073709551616:=Nat.xor_lt_two_pow (n:=64) (by omega) (by omega)
 have Jp:(n ^^^ (n*8192 % 18446744073709551616)) ^^^ ((n ^^^ (n*8192 % 18446744073709551616)) / 128)<18446744073709551616:=Nat.xor_lt_two_pow (n:=64) ha (by omega)
 unfold Sort.xorNextN
 dsimp only
 refine QA Qe hb 200 mixed [(0,true),(1,true),(2,true),(3,true),(4,true),(5,true),(6,true),(7,true),(8,true),(9,false)] (by kernel_rfl) (by kernel_rfl) ?_
 simp only[go_sem,simprocAttr,Qa,Xy,YD,x1 n hn]
 generalize n ^^^ (n*8192 % 18446744073709551616)=n1 at *
 refine QA Qe hb 200 mixed [(0,true),(1,true),(2,true),(3,true),(4,true),(5,true),(6,true),(7,true),(8,true),(9,false)] (by kernel_rfl) (by kernel_rfl) ?_
 simp only[go_sem,simprocAttr,Qa,Qw YD,List.set_set,YD,x2 n1 ha]
 generalize n1 ^^^ (n1 / 128)=n2 at *
 refine QA Qe hb 200 mixed [(0,true),(1,true),(2,true),(3,true),(4,true),(5,true),(6,true),(7,true),(8,true),(9,false)] (by kernel_rfl) (by kernel_rfl) ?_
 simp only[go_sem,simprocAttr,Qa,Qw YD,List.set_set,YD,x3 n2 Jp]
 try exact ⟨rfl,rfl⟩
def zR (a L M idx:Nat) (s0:UInt64 × Array Int):Nat→UInt64 × Array Int
 | 0=>s0
 | k+1=>Sort.breakStep a L M (zR a L M idx s0 k) (idx+k)
theorem Si (a L M idx:Nat) (s0:UInt64 × Array Int):∀ k,(zR a L M idx s0 k).2.size=s0.2.size
 | 0=>rfl
 | k+1=>by
  rw[zR,Sort.breakStep]
  dsimp only
  rw[swp_size,Si a L M idx s0 k]
theorem p5 (d:Array Int) (a b:Nat) (h:b - a ≥ 8):Sort.breakPatterns d a b=(zR a (b - a) (1 <<< Sort.bitsLen (b - a)) (a+(b - a) / 4*2 - 1) (UInt64.ofNat (b - a),d) 3).2:=by
 unfold Sort.breakPatterns
 dsimp only
 rw[if_pos h]
 rfl
section
variable {h:List Ob} {lo g:Nat} {d:Array Int} (ho:h[lo]? = some (QO g d))
include ho
theorem QmB (a b:Nat) (JW:a<b) (Q9:b≤d.size) (hz:d.size<1000000000) :
  QG Tryz.prog 295 h [.ref lo g 0 d.size,Qb a,Qb b] (fun dd h'=>dd=.tup []∧∃ t,h'=h.set lo (QO g (Sort.breakPatterns d a b))++t):=by
 have e0:IntKind.i64.wrap ((b:Int) - a)=((b - a:Nat):Int):=by rw[wrap64 (by omega) (by omega)];omega
 by_cases c8:b - a ≥ 8
 ·rw[p5 d a b c8]
  have d8:decide ((8:Int)≤(b - a:Nat))=true:=decide_eq_true (by omega)
  generalize hL:b - a=L at *
  have p6:=Sort.two_pow_bitsLen_le (n:=L) (by omega)
  have hM0:=Nat.two_pow_pos (Sort.bitsLen L)
  rw[show 1 <<< Sort.bitsLen L=2 ^ Sort.bitsLen L by rw[Nat.shiftLeft_eq,Nat.one_mul]]
  have f0:((L:Int)).tdiv 4=((L / 4:Nat):Int):=rfl
  have f1:IntKind.i64.wrap (((L / 4:Nat):Int))=((L / 4:Nat):Int):=by rw[wrap64 (by omega) (by omega)]
  have f2:IntKind.i64.wrap (((L / 4:Nat):Int)*2)=((L / 4*2:Nat):Int):=by rw[wrap64 (by omega) (by omega)];omega
  have f3:IntKind.i64.wrap ((a:Int)+(L / 4*2:Nat))=((a+L / 4*2:Nat):Int):=by rw[wrap64 (by omega) (by omega)];omega
  have f4:IntKind.i64.wrap (((a+L / 4*2:Nat):Int) - 1)=((a+L / 4*2 - 1:Nat):Int):=by rw[wrap64 (by omega) (by omega)];omega
  have f5:IntKind.i64.wrap (((a+L / 4*2:Nat):Int)+1)=((a+L / 4*2+1:Nat):Int):=by rw[wrap64 (by omega) (by omega)];omega
  have f6:IntKind.u64.wrap (L:Int)=(L:Int):=by rw[IntKind.wrap_u64];omega
  refine QW Qe 200 Tryz.func295 rfl Tryz.ntmps295 Tryz.results295 rfl fun base w pl hb=>?_
  have Qf:=Qd ho
  simp only[go_sem,simprocAttr,Qa,ho,Qf,e0,d8,f6]
  refine QM hb QiT rfl ?_ (Qmz L (by omega)) (Qm.flat rfl) rfl fun d h hR=>?_
  ·simp only[go_sem,simprocAttr,f0,f1,f2,f3,f4]
  obtain ⟨rfl,rfl⟩:=hR
  refine Qc hb ?_
  simp only[go_sem,simprocAttr,f0,f1,f2,f3,f4]
  generalize hM:2 ^ Sort.bitsLen L=M at *
  generalize hS:(UInt64.ofNat L,d)=s0
  have VP:s0.2.size=d.size:=by rw[← hS]
  have hS1:s0.1.toNat=L:=by rw[← hS];simp;omega
  have A7:s0.2=d:=by rw[← hS]
  refine ZB (fun m st=>m≤3∧st=⟨[(0,.ref lo g 0 d.size),(1,Qb a),(6,Qb L),(7,.ptr h.length 0 0 0),(8,u64 M),(9,Qb (a+L / 4*2 - 1+m:Nat))],h.set lo (QO g (zR a L M (a+L / 4*2 - 1) s0 m).2)++[yJ (zR a L M (a+L / 4*2 - 1) s0 m).1.toNat]⟩) 3 (s0:=⟨[(0,.ref lo g 0 d.size),(1,Qb a),(6,Qb L),(7,.ptr h.length 0 0 0),(8,u64 M),(9,Qb (a+L / 4*2 - 1+0:Nat))],h.set lo (QO g (zR a L M (a+L / 4*2 - 1) s0 0).2)++[yJ (zR a L M (a+L / 4*2 - 1) s0 0).1.toNat]⟩) ?_ ⟨by omega,rfl⟩ ?_
  ·rw[zR,A7,hS1,YC ho]
   exact Ql.frame (by simp only[go_sem,simprocAttr])
  rintro m _ hm ⟨wD,rfl⟩
  have Zz:=Si a L M (a+L / 4*2 - 1) s0 m
  rw[VP] at Zz
  by_cases cm:m<3
  ·have p7:zR a L M (a+L / 4*2 - 1) s0 (m+1)=Sort.breakStep a L M (zR a L M (a+L / 4*2 - 1) s0 m) (a+L / 4*2 - 1+m):=rfl
   generalize ZH:zR a L M (a+L / 4*2 - 1) s0 m=sm at *
   obtain ⟨r,dm⟩:=sm
   dsimp only at Zz ⊢
   have Gu:=X9 (g:=g) (d:=dm) Qf
   have Xu:(h.set lo (QO g dm)).length=h.length:=List.length_set
   generalize hH:h.set lo (QO g dm)=H at *
   have vu:=Qd Gu
   have Zp:lo<h.length:=Qf
   rw[← Xu]
   have g1:(H++[yJ r.toNat])[H.length]? = some (yJ r.toNat):=by simp
   have hx:=Sort.xorNext_toNat r
   have Z5:=r.toNat_lt
   have Xk:=Sort.xorNextN_lt r.toNat Z5
   have g2:∀ o o':Ob,(H++[o]).set H.length o'=H++[o']:=fun o o'=>by rw[OP rfl];rfl
   have c1:decide (a+L / 4*2 - 1+m≤a+L / 4*2+1)=true:=decide_eq_true (by omega)
   refine Qc hb ?_
   simp only[go_sem,simprocAttr,Qa,f0,f1,f2,f3,f5,c1]
   refine Q5 hb QiU rfl ?_ (QmA r.toNat g1 Z5) rfl fun d h hR=>?_
   ·simp only[go_sem,simprocAttr,g2]
   obtain ⟨rfl,rfl⟩:=hR
   refine Qc hb ?_
   simp only[go_sem,simprocAttr,g2]
   have wM:IntKind.u64.wrap ((M:Int) - 1)=((M - 1:Nat):Int):=by rw[IntKind.wrap_u64];omega
   generalize hxx:Sort.xorNextN r.toNat=x at *
   have wA:bits .and .u64 (x:Int) ((M - 1:Nat):Int)=((x &&& (M - 1):Nat):Int):=u64_and_nat x (M - 1) Xk (by omega)
   have yb:x &&& (M - 1)≤M - 1:=Nat.and_le_right
   generalize hy:x &&& (M - 1)=y at *
   have wI:IntKind.i64.wrap ((y:Nat):Int)=((y:Nat):Int):=by rw[wrap64 (by omega) (by omega)]
   have k0:IntKind.i64.wrap (((y:Nat):Int) - L)=((y - L:Nat):Int)∨¬ L≤y:=by
    by_cases q:L≤y
    ·left;rw[wrap64 (by omega) (by omega)];omega
    ·right;exact q
   have k4:IntKind.i64.wrap (((a+L / 4*2 - 1+m:Nat):Int)+1)=((a+L / 4*2 - 1+(m+1):Nat):Int):=by rw[wrap64 (by omega) (by omega)];omega
   simp only[go_sem,simprocAttr,wM,wA,wI]
   by_cases cL:L≤y
   ·replace k0:=k0.resolve_right (fun q=>q cL)
    have c2:decide (L≤y)=true:=decide_eq_true cL
    have Js:Sort.breakStep a L M (r,dm) (a+L / 4*2 - 1+m)=(Sort.xorNext r,Sort.swp dm (a+L / 4*2 - 1+m) (a+(y - L))):=by
     unfold Sort.breakStep
     dsimp only
     rw[hx,hy,if_pos cL]
    have k1:a+L / 4*2 - 1+m<d.size:=by omega
    have k2:a+(y - L)<d.size:=by omega
    have k3:IntKind.i64.wrap ((a:Int)+((y - L):Nat))=((a+(y - L):Nat):Int):=by rw[wrap64 (by omega) (by omega)];omega
    simp only[go_sem,simprocAttr,c2,k0]
    refine wX (⟨[(0,.ref lo g 0 d.size),(1,Qb a),(6,Qb L),(7,.ptr H.length 0 0 0),(8,u64 M),(9,Qb (a+L / 4*2 - 1+m:Nat))],H.set lo (QO g (Sort.swp dm (a+L / 4*2 - 1+m) (a+(y - L))))++[yJ x]⟩) Qe hb mixed [(0,true),(1,true),(2,true),(3,true),(4,true),(6,true),(7,true),(8,true),(9,true),(10,true),(11,true),(12,true),(13,true),(14,true),(15,true),(16,true)] [5,17,18,19] (by kernel_rfl) (by kernel_rfl) (fun s hw=>jW hw rfl ?_) ?_
    rotate_left
    ·simp only[go_sem,simprocAttr,Qa,Gu,vu,Zz,k1,k2,k3,QU vu,wu vu,Qw vu,List.set_set,Xz,List.length_set,QU (show lo<(H.set lo (QO g dm)).length by simp;exact vu)]
     rw[XA g dm _ _ _ Zz k1 k2]
     repeat' refine And.intro ?_ ?_
     all_goals exact Ql.frame (by simp only[go_sem,simprocAttr])
    refine Qc hb ?_
    simp only[go_sem,simprocAttr,k4]
    refine ⟨by omega,_,?_,by omega,rfl⟩
    rw[p7,Js,← hH,List.set_set,hx]
    rw[← hH] at Xu
    rw[Xu]
    exact Ql.frame (by simp only[go_sem,simprocAttr])
   ·have c2:decide (L≤y)=false:=decide_eq_false cL
    have Js:Sort.breakStep a L M (r,dm) (a+L / 4*2 - 1+m)=(Sort.xorNext r,Sort.swp dm (a+L / 4*2 - 1+m) (a+y)):=by
     unfold Sort.breakStep
     dsimp only
     rw[hx,hy,if_neg cL]
    have k1:a+L / 4*2 - 1+m<d.size:=by omega
    have k2:a+y<d.size:=by omega
    have k3:IntKind.i64.wrap ((a:Int)+(y:Nat))=((a+y:Nat):Int):=by rw[wrap64 (by omega) (by omega)];omega
    simp only[go_sem,simprocAttr,c2]
    refine wX (⟨[(0,.ref lo g 0 d.size),(1,Qb a),(6,Qb L),(7,.ptr H.length 0 0 0),(8,u64 M),(9,Qb (a+L / 4*2 - 1+m:Nat))],H.set lo (QO g (Sort.swp dm (a+L / 4*2 - 1+m) (a+y)))++[yJ x]⟩) Qe hb mixed [(0,true),(1,true),(2,true),(3,true),(4,true),(6,true),(7,true),(8,true),(9,true),(10,true),(11,true),(12,true),(13,true),(14,true),(15,true),(16,true)] [5,17,18,19] (by kernel_rfl) (by kernel_rfl) (fun s hw=>jW hw rfl ?_) ?_
    rotate_left
    ·simp only[go_sem,simprocAttr,Qa,Gu,vu,Zz,k1,k2,k3,QU vu,wu vu,Qw vu,List.set_set,Xz,List.length_set,QU (show lo<(H.set lo (QO g dm)).length by simp;exact vu)]
     rw[XA g dm _ _ _ Zz k1 k2]
     repeat' refine And.intro ?_ ?_
     all_goals exact Ql.frame (by simp only[go_sem,simprocAttr])
    refine Qc hb ?_
    simp only[go_sem,simprocAttr,k4]
    refine ⟨by omega,_,?_,by omega,rfl⟩
    rw[p7,Js,← hH,List.set_set,hx]
    rw[← hH] at Xu
    rw[Xu]
    exact Ql.frame (by simp only[go_sem,simprocAttr])
  ·obtain rfl:m=3:=by omega
   have c1:decide (a+L / 4*2 - 1+2≤a+L / 4*2)=false:=decide_eq_false (by omega)
   refine Qc hb ?_
   simp only[go_sem,simprocAttr,Qa,f0,f1,f2,f3,f5,c1]
   try exact ⟨_,rfl⟩
 ·have d8:decide ((8:Int)≤(b - a:Nat))=false:=decide_eq_false (by omega)
  have e:Sort.breakPatterns d a b=d:=by
   unfold Sort.breakPatterns
   dsimp only
   rw[if_neg c8]
  rw[e]
  refine QW Qe 200 Tryz.func295 rfl Tryz.ntmps295 Tryz.results295 rfl fun base w pl hb=>?_
  have Qf:=Qd ho
  simp only[go_sem,simprocAttr,Qa,ho,Qf,e0,d8]
  exact ⟨[],by rw[List.append_nil];exact (YC ho).symm⟩
end
theorem p8 (a b:Nat):∀ (n i:Nat) (d:Array Int),b - i≤n→(Sort.insOuter Qn a b i d).size=d.size
 | n,i,d,hn=>by
  rw[Sort.insOuter]
  split
  ·obtain ⟨n',rfl⟩:∃ n',n=n'+1:=⟨n - 1,by omega⟩
   rw[p8 a b n' _ _ (by omega),pJ]
  ·rfl
theorem QmD (d:Array Int) (a b:Nat):(Sort.insertionSort Qn d a b).size=d.size:=p8 a b _ _ d (Nat.le_refl _)
theorem p9 (first:Nat):∀ (k:Nat) (d:Array Int),(Sort.heapPop Qn first k d).size=d.size
 | 0,d=>rfl
 | k+1,d=>by rw[Sort.heapPop,p9 first k,Mj,swp_size]
theorem QmE (d:Array Int) (a b:Nat):(Sort.heapSort Qn d a b).size=d.size:=by rw[Sort.heapSort,p9,pL]
theorem QmF (d:Array Int) (a b:Nat):(Sort.breakPatterns d a b).size=d.size:=by
 by_cases c:b - a ≥ 8
 ·rw[p5 d a b c,Si]
 ·unfold Sort.breakPatterns
  dsimp only
  rw[if_neg c]
theorem rb:∀ (n i j:Nat) (d:Array Int),j - i≤n→(Sort.reverseLoop i j d).size=d.size
 | n,i,j,d,hn=>by
  rw[Sort.reverseLoop]
  split
  ·obtain ⟨n',rfl⟩:∃ n',n=n'+1:=⟨n - 1,by omega⟩
   rw[rb n' _ _ _ (by omega),swp_size]
  ·rfl
theorem QmG (d:Array Int) (a b:Nat):(Sort.reverseRange d a b).size=d.size:=rb _ _ _ d (Nat.le_refl _)
theorem re (a b:Nat):∀ (s i:Nat) (d:Array Int),(Sort.partialIns Qn a b s i d).1.size=d.size
 | 0,i,d=>rfl
 | s+1,i,d=>by
  rw[Sort.partialIns]
  dsimp only
  split
  ·rfl
  ·split
   ·rfl
   ·rw[re a b s]
    have e:∀ dd:Array Int,(if b - Sort.scanSorted Qn d b i ≥ 2 then Sort.shiftUp Qn b (Sort.scanSorted Qn d b i+1) dd else dd).size=dd.size:=fun dd=>by
     split
     ·exact pQ b _ _ _ (Nat.le_refl _)
     ·rfl
    rw[e]
    split
    ·rw[R5,swp_size]
    ·rw[swp_size]
theorem Sj (d:Array Int) (a b p:Nat):(Sort.partitionEqual Qn d a b p).2.size=d.size:=by
 rw[Sort.partitionEqual,pN a _ _ _ _ (Nat.le_refl _),swp_size]
theorem Mr (d:Array Int) (a b p:Nat):(Sort.partition Qn d a b p).2.2.size=d.size:=by
 rw[Sort.partition_arr,swp_size,pO a _ _ _ _ (Nat.le_refl _),swp_size]
theorem rf (d:Array Int) (a b l:Nat) (wb wp:Bool):(Sort.rd Qn d a b l wb wp).d1.size=d.size∧(Sort.rd Qn d a b l wb wp).d2.size=d.size∧(Sort.rd Qn d a b l wb wp).pi.1.size=d.size:=by
 have h1:(Sort.rd Qn d a b l wb wp).d1.size=d.size:=by
  cases wb
  ·exact QmF d a b
  ·rfl
 have h2:(Sort.rd Qn d a b l wb wp).d2.size=d.size:=by
  by_cases hh:(Sort.rd Qn d a b l wb wp).c.2=.decreasing
  ·rw[(Sort.rd_dec hh).1,QmG,h1]
  ·rw[(Sort.rd_not hh).1,h1]
 refine ⟨h1,h2,?_⟩
 cases hc:(wb && wp && decide ((Sort.rd Qn d a b l wb wp).hint=.increasing))
 ·rw[Sort.rd_pi_no hc,h2]
 ·rw[Sort.rd_pi_yes hc,Sort.partialInsertionSort,re,h2]
theorem rh (a:Nat):∀ (n i j:Nat) (d:Array Int),j+1 - i≤n→a<i→i≤j+1→a<(Sort.partEqLoop Qn a i j d).1∧(Sort.partEqLoop Qn a i j d).1≤j+1
 | n,i,j,d,hn,R3,JN=>by
  have Bm:=Ml (fun x=>!Qn d[a]! x) (fun x=>Qn d[a]! x) (fun x=>by simp) d i j (by omega) JN
  obtain ⟨u1,u2,u3,u4⟩:=Sort.scanUp_spec (fun x=>!Qn d[a]! x) d j _ i rfl
  obtain ⟨v1,v2,v3,v4⟩:=Sort.scanDown_spec (fun x=>Qn d[a]! x) d (Sort.scanUp (fun x=>!Qn d[a]! x) d j i) j
  have u5:=u2 JN
  rw[Sort.partEqLoop_eq]
  split
  ·exact ⟨by dsimp only;omega,u5⟩
  ·rename_i h
   have h2:=Bm h
   have:=Sort.partEqLoop_guard Qn a i j d h
   obtain ⟨n',rfl⟩:∃ n',n=n'+1:=⟨n - 1,by omega⟩
   obtain ⟨r1,r2⟩:=rh a n' _ _ (Sort.swp d (Sort.scanUp (fun x=>!Qn d[a]! x) d j i) (Sort.scanDown (fun x=>Qn d[a]! x) d (Sort.scanUp (fun x=>!Qn d[a]! x) d j i) j)) (show (Sort.scanDown (fun x=>Qn d[a]! x) d (Sort.scanUp (fun x=>!Qn d[a]! x) d j i) j - 1)+1 - (Sort.scanUp (fun x=>!Qn d[a]! x) d j i+1)≤n' by omega) (by omega) (by omega)
   exact ⟨r1,by omega⟩
theorem QmH (d:Array Int) (a b p:Nat) (JW:a<b):a<(Sort.partitionEqual Qn d a b p).1∧(Sort.partitionEqual Qn d a b p).1≤b:=by
 have:=rh a _ (a+1) (b - 1) (Sort.swp d a p) (Nat.le_refl _) (by omega) (by omega)
 rw[Sort.partitionEqual]
 omega
theorem ri:Sort.SWO Qn:=⟨fun x=>by simp [Qn],fun x y z h1 h2=>by simp [Qn] at *;omega,fun x y z h1 h2=>by simp [Qn] at *;omega⟩
theorem QmI (d:Array Int) (a b p:Nat) (h1:a≤p) (h2:p<b) (hb:b≤d.size):a≤(Sort.partition Qn d a b p).1∧(Sort.partition Qn d a b p).1<b:=by
 have:=Sort.partition_holds Qn ri d a b p h1 h2 hb
 exact ⟨this.1,this.2.1⟩
theorem QmJ (d:Array Int) (a b l:Nat) (wb wp:Bool) (JW:a<b):a≤(Sort.rd Qn d a b l wb wp).pivot∧(Sort.rd Qn d a b l wb wp).pivot<b:=by
 have h:=Sort.choosePivot_holds Qn (Sort.rd Qn d a b l wb wp).d1 a b JW
 rw[← Sort.rd_c] at h
 by_cases hh:(Sort.rd Qn d a b l wb wp).c.2=.decreasing
 ·rw[(Sort.rd_dec hh).2.1];omega
 ·rw[(Sort.rd_not hh).2.1];exact h
theorem yK:∀ (n:Nat) (d:Array Int) (a b l:Nat) (wb wp:Bool),b - a≤n→(Sort.pdq Qn d a b l wb wp).size=d.size
 | n,d,a,b,l,wb,wp,hn=>by
  obtain ⟨z1,z2,z3⟩:=rf d a b l wb wp
  rw[Sort.pdq_unfold]
  split
  ·exact QmD d a b
  ·split
   ·exact QmE d a b
   ·obtain ⟨n',rfl⟩:∃ n',n=n'+1:=⟨n - 1,by omega⟩
    split
    ·exact z3
    ·split
     ·split
      ·rename_i h
       rw[yK n' _ _ _ _ _ _ (by omega),Sj,z3]
      ·rw[Sj,z3]
     ·split
      ·rename_i h
       split
       ·rw[yK n' _ _ _ _ _ _ (by omega),yK n' _ _ _ _ _ _ (by omega),Mr,z3]
       ·rw[yK n' _ _ _ _ _ _ (by omega),yK n' _ _ _ _ _ _ (by omega),Mr,z3]
      ·rw[Mr,z3]
def rj (n:Nat):Prop:=∀ (h:List Ob) (lo g:Nat) (d:Array Int),h[lo]? = some (QO g d)→∀ a b l:Nat,a≤b→b≤d.size→l<1000→d.size<1000000000→b - a<n →
 QG Tryz.prog 288 h [.ref lo g 0 d.size,Qb a,Qb b,Qb l] (fun dd h'=>dd=.tup []∧∃ t,h'=h.set lo (QO g (Sort.pdq Qn d a b l true true))++t)
theorem xg {h t:List Ob} {lo:Nat} {x y:Ob} (hl:lo<h.length):(h.set lo x++t).set lo y=h.set lo y++t:=by
 rw[List.set_append_left _ _ (by simpa using hl),List.set_set]
theorem Gv {h t:List Ob} {lo:Nat} {x:Ob} (hl:lo<h.length):(h.set lo x++t)[lo]? = some x:=by
 rw[List.getElem?_append_left (by simpa using hl),Qw hl]
theorem rk (c:Sort.Hint) (k:Sort.Hint):((wY c:Int) == (wY k:Int))=decide (c=k):=by cases c <;> cases k <;> rfl
theorem QmK (n:Nat) (IH:rj n) {h:List Ob} {lo g:Nat} {d:Array Int} (ho:h[lo]? = some (QO g d)) (a b l:Nat) (JW:a≤b) (Q9:b≤d.size) (hl:l<1000) (hz:d.size<1000000000) (hn:b - a<n+1) :
  QG Tryz.prog 288 h [.ref lo g 0 d.size,Qb a,Qb b,Qb l] (fun dd h'=>dd=.tup []∧∃ t,h'=h.set lo (QO g (Sort.pdq Qn d a b l true true))++t):=by
 refine QW Qe 200 Tryz.func288 rfl Tryz.ntmps288 Tryz.results288 rfl fun base w pl hb=>?_
 have Qf:=Qd ho
 simp only[go_sem,simprocAttr,Qa,ho,Qf]
 refine ZB (fun m st=>∃ (d1:Array Int) (a1 b1 l1:Nat) (wb wp:Bool) (t:List Ob),d1.size=d.size∧a1≤b1∧b1≤d.size∧l1<1000∧m+(b1 - a1)≤b - a∧Sort.pdq Qn d1 a1 b1 l1 wb wp=Sort.pdq Qn d a b l true true∧st=⟨[(0,.ref lo g 0 d.size),(1,Qb a1),(2,Qb b1),(3,Qb l1),(8,QN wb),(9,QN wp)],h.set lo (QO g d1)++t⟩) (b - a) (s0:=⟨[(0,.ref lo g 0 d.size),(1,Qb a),(2,Qb b),(3,Qb l),(8,QN true),(9,QN true)],h.set lo (QO g d)++[]⟩) ?_ ⟨d,a,b,l,true,true,[],rfl,JW,Q9,hl,by omega,rfl,rfl⟩ ?_
 ·rw[YC ho,List.append_nil]
  exact Ql.frame (by simp only[go_sem,simprocAttr])
 rintro m _ hm ⟨d1,a1,b1,l1,wb,wp,t1,Zf,QtQ,QtR,Ze,Lm,WM,rfl⟩
 have e0:IntKind.i64.wrap ((b1:Int) - a1)=((b1 - a1:Nat):Int):=by rw[wrap64 (by omega) (by omega)];omega
 have Sk:(h.set lo (QO g d1)++t1)[lo]? = some (QO g d1):=Gv Qf
 rw[Sort.pdq_unfold] at WM
 by_cases rm:b1 - a1≤12
 ·have d12:decide (((b1 - a1:Nat):Int)≤12)=true:=decide_eq_true (by omega)
  rw[if_pos rm] at WM
  refine Qc hb ?_
  simp only[go_sem,simprocAttr,Qa,e0,d12]
  refine Q5 hb QiV rfl ?_ (Zf▸Qmd Sk a1 b1 (by omega) (by omega) (by omega)) rfl fun d h hR=>?_
  ·simp only[go_sem,simprocAttr]
  obtain ⟨rfl,rfl⟩:=hR
  refine Qc hb ?_
  simp only[go_sem,simprocAttr]
  refine ⟨t1,?_⟩
  rw[← WM]
  exact xg Qf
 ·have d12:decide (((b1 - a1:Nat):Int)≤12)=false:=decide_eq_false (by omega)
  rw[if_neg rm] at WM
  by_cases cl:l1=0
  ·have dl:((l1:Int) == 0)=true:=by rw[cl];rfl
   rw[if_pos cl] at WM
   refine Qc hb ?_
   simp only[go_sem,simprocAttr,Qa,e0,d12,dl]
   refine Q5 hb QiW rfl ?_ (Zf▸Qme Sk a1 b1 (by omega) (by omega) (by omega)) rfl fun d h hR=>?_
   ·simp only[go_sem,simprocAttr]
   obtain ⟨rfl,rfl⟩:=hR
   refine Qc hb ?_
   simp only[go_sem,simprocAttr]
   refine ⟨t1,?_⟩
   rw[← WM]
   exact xg Qf
  ·have dl:((l1:Int) == 0)=false:=beq_eq_false_iff_ne.mpr (by omega)
   rw[if_neg cl] at WM
   refine Co Qe hb 30 ?_
   simp only[go_sem,simprocAttr,Qa,e0,d12,dl]
   obtain ⟨z1,z2,z3⟩:=rf d1 a1 b1 l1 wb wp
   have QtS:=Sort.rd_lim_le (lt:=Qn) (d:=d1) (a:=a1) (b:=b1) (limit:=l1) (wb:=wb) (wp:=wp)
   have Dw:=QmJ d1 a1 b1 l1 wb wp (by omega)
   rw[Zf] at z1 z2 z3
   first | refine Wc ?_ | skip
   refine Mh (fun st=>∃ t,st=⟨[(0,.ref lo g 0 d.size),(1,Qb a1),(2,Qb b1),(3,Qb (Sort.rd Qn d1 a1 b1 l1 wb wp).lim),(8,QN wb),(9,QN wp),(10,Qb (b1 - a1:Nat))],h.set lo (QO g (Sort.rd Qn d1 a1 b1 l1 wb wp).d1)++t⟩) ?_ ?_
   ·cases wb
    ·have vl:IntKind.i64.wrap ((l1:Int) - 1)=((l1 - 1:Nat):Int):=by rw[wrap64 (by omega) (by omega)];omega
     rw[Sort.rd_false.1,Sort.rd_false.2]
     refine Qc hb ?_
     simp only[go_sem,simprocAttr]
     refine Q5 hb QiX rfl ?_ (Zf▸QmB Sk a1 b1 (by omega) (by omega) (by omega)) rfl fun d h hR=>?_
     ·simp only[go_sem,simprocAttr,vl]
     obtain ⟨rfl,t2,rfl⟩:=hR
     refine Qc hb ?_
     simp only[go_sem,simprocAttr,vl]
     refine ⟨_,⟨t1++t2,rfl⟩,?_⟩
     rw[xg Qf,List.append_assoc]
     exact Ql.frame (by simp only[go_sem,simprocAttr])
    ·rw[Sort.rd_true.1,Sort.rd_true.2]
     refine Qc hb ?_
     simp only[go_sem,simprocAttr]
     refine ⟨_,⟨t1,rfl⟩,?_⟩
     exact Ql.frame (by simp only[go_sem,simprocAttr])
   have hc:=Sort.rd_c (lt:=Qn) (d:=d1) (a:=a1) (b:=b1) (limit:=l1) (wb:=wb) (wp:=wp)
   have QmL:=Sort.rd_dec (lt:=Qn) (d:=d1) (a:=a1) (b:=b1) (limit:=l1) (wb:=wb) (wp:=wp)
   have QmM:=Sort.rd_not (lt:=Qn) (d:=d1) (a:=a1) (b:=b1) (limit:=l1) (wb:=wb) (wp:=wp)
   have QmN:=Sort.rd_pi_yes (lt:=Qn) (d:=d1) (a:=a1) (b:=b1) (limit:=l1) (wb:=wb) (wp:=wp)
   have JL:=Sort.rd_pi_no (lt:=Qn) (d:=d1) (a:=a1) (b:=b1) (limit:=l1) (wb:=wb) (wp:=wp)
   have V7:=Sort.choosePivot_holds Qn (Sort.rd Qn d1 a1 b1 l1 wb wp).d1 a1 b1 (by omega)
   rw[← hc] at V7
   generalize Sort.rd Qn d1 a1 b1 l1 wb wp=R at *
   rintro _ ⟨t2,rfl⟩
   refine Qc hb ?_
   simp only[go_sem,simprocAttr,Qa]
   refine Q5 hb QiY rfl ?_ (z1▸Qmb (Gv (x:=QO g R.d1) Qf) a1 b1 (by omega) (by omega) (by omega)) rfl fun d h hR=>?_
   ·simp only[go_sem,simprocAttr,List.append_assoc]
   obtain ⟨rfl,t3,rfl⟩:=hR
   refine Co Qe hb 12 ?_
   simp only[go_sem,simprocAttr,List.append_assoc]
   rw[← hc]
   first | refine Wc ?_ | skip
   refine Mh (fun st=>∃ t,st=⟨[(0,.ref lo g 0 d.size),(1,Qb a1),(2,Qb b1),(3,Qb R.lim),(8,QN wb),(9,QN wp),(10,Qb (b1 - a1:Nat)),(11,Qb R.pivot),(12,Qb (wY R.hint:Nat))],h.set lo (QO g R.d2)++t⟩) ?_ ?_
   ·by_cases hh:R.c.2=.decreasing
    ·obtain ⟨r1,r2,r3⟩:=QmL hh
     have b2:((wY R.c.2:Int) == 2)=true:=by rw[hh];rfl
     have v1:IntKind.i64.wrap ((b1:Int) - 1)=((b1 - 1:Nat):Int):=by rw[wrap64 (by omega) (by omega)];omega
     have v2:IntKind.i64.wrap ((R.c.1:Int) - a1)=((R.c.1 - a1:Nat):Int):=by rw[wrap64 (by omega) (by omega)];omega
     have v3:IntKind.i64.wrap (((b1 - 1:Nat):Int) - (R.c.1 - a1:Nat))=(((b1 - 1) - (R.c.1 - a1):Nat):Int):=by rw[wrap64 (by omega) (by omega)];omega
     refine Qc hb ?_
     simp only[go_sem,simprocAttr,b2]
     refine Q5 hb QiZ rfl ?_ (z1▸Qmc (Gv (x:=QO g R.d1) Qf) a1 b1 (by omega) (by omega) (by omega)) rfl fun d h hR=>?_
     ·simp only[go_sem,simprocAttr,v1,v2,v3]
     obtain ⟨rfl,rfl⟩:=hR
     refine Qc hb ?_
     simp only[go_sem,simprocAttr,v1,v2,v3]
     rw[r1,r2,r3]
     refine ⟨_,⟨t2++t3,rfl⟩,?_⟩
     rw[xg Qf]
     exact Ql.frame (by simp only[go_sem,simprocAttr];first | rfl | exact ⟨rfl,rfl⟩)
    ·obtain ⟨r1,r2,r3⟩:=QmM hh
     have b2:((wY R.c.2:Int) == 2)=false:=by rw[show (2:Int)=(wY .decreasing:Int) from rfl,rk];exact decide_eq_false hh
     refine Qc hb ?_
     simp only[go_sem,simprocAttr,b2]
     rw[r1,r2,r3]
     refine ⟨_,⟨t2++t3,rfl⟩,?_⟩
     exact Ql.frame (by simp only[go_sem,simprocAttr])
   rintro _ ⟨t4,rfl⟩
   refine Wc ?_
   first | refine Wc ?_ | skip
   refine Pj (⟨[(0,.ref lo g 0 d.size),(1,Qb a1),(2,Qb b1),(3,Qb R.lim),(8,QN wb),(9,QN wp),(10,Qb (b1 - a1:Nat)),(11,Qb R.pivot),(12,Qb (wY R.hint:Nat)),(68,QN (wb && wp && decide (R.hint=.increasing)))],h.set lo (QO g R.d2)++t4⟩) ?_ ?_
   ·cases wb
    ·refine Qc hb ?_
     simp only[go_sem,simprocAttr,Qa]
     exact Ql.frame (by simp only[go_sem,simprocAttr,Bool.false_and])
    ·cases wp
     ·refine Qc hb ?_
      simp only[go_sem,simprocAttr,Qa]
      exact Ql.frame (by simp only[go_sem,simprocAttr,Bool.false_and,Bool.true_and])
     ·have Ia:((wY R.hint:Int) == 1)=decide (R.hint=.increasing):=rk R.hint .increasing
      refine Qc hb ?_
      simp only[go_sem,simprocAttr,Qa,Ia]
      exact Ql.frame (by simp only[go_sem,simprocAttr,Bool.false_and,Bool.true_and])
   first | refine Wc ?_ | skip
   refine Mh (fun st=>R.pi.2=false∧∃ t,st=⟨[(0,.ref lo g 0 d.size),(1,Qb a1),(2,Qb b1),(3,Qb R.lim),(8,QN wb),(9,QN wp),(10,Qb (b1 - a1:Nat)),(11,Qb R.pivot)],h.set lo (QO g R.pi.1)++t⟩) ?_ ?_
   ·cases hB:(wb && wp && decide (R.hint=.increasing))
    ·have hp:=JL hB
     refine Qc hb ?_
     simp only[go_sem,simprocAttr]
     rw[hp]
     refine ⟨_,⟨rfl,t4,rfl⟩,?_⟩
     exact Ql.frame (by simp only[go_sem,simprocAttr])
    ·have hp:=QmN hB
     refine Qc hb ?_
     simp only[go_sem,simprocAttr]
     refine Q5 hb Qi0 rfl ?_ (z2▸Qmv (Gv (x:=QO g R.d2) Qf) a1 b1 (by omega) (by omega) (by omega)) rfl fun d h hR=>?_
     ·simp only[go_sem,simprocAttr]
     obtain ⟨rfl,rfl⟩:=hR
     refine Qc hb ?_
     simp only[go_sem,simprocAttr]
     rw[← hp]
     cases ZZ:R.pi.2
     ·simp only[go_sem,simprocAttr]
      refine ⟨_,⟨t4,rfl⟩,?_⟩
      rw[xg Qf]
      exact Ql.frame (by simp only[go_sem,simprocAttr])
     ·rw[if_pos ZZ] at WM
      simp only[go_sem,simprocAttr]
      refine ⟨t4,?_⟩
      rw[← WM]
      exact xg Qf
   rintro _ ⟨QmO,t5,rfl⟩
   rw[if_neg (by rw[QmO];decide)] at WM
   generalize hD:R.pi.1=DA at *
   have Dx:(h.set lo (QO g DA)++t5)[lo]? = some (QO g DA):=Gv Qf
   generalize Sl:h.set lo (QO g DA)++t5=HD at Dx
   have Sm:=Qd Dx
   have p2:R.pivot<d.size:=by omega
   have f1:a1 > 0→IntKind.i64.wrap ((a1:Int) - 1)=((a1 - 1:Nat):Int):=fun q=>by rw[wrap64 (by omega) (by omega)];omega
   have p1:a1 - 1<d.size:=by omega
   refine Wc ?_
   first | refine Wc ?_ | skip
   refine jG [0,1,2,3,8,9,10,11] [(87,QN (decide (a1 > 0) && !Qn DA[a1 - 1]! DA[R.pivot]!))] rfl ?_ ?_
   ·by_cases ca:a1 > 0
    ·have da:decide ((0:Int)<(a1:Int))=true:=decide_eq_true (by omega)
     have f2:=f1 ca
     refine QA Qe hb 200 mixed [(0,true),(1,true),(2,true),(3,true),(4,true),(5,true),(6,true),(7,true),(8,true),(9,true),(10,true),(11,true),(12,false),(13,true),(14,true)] (by kernel_rfl) (by kernel_rfl) ?_
     simp only[go_sem,simprocAttr,Qa,Dx,Sm,z3,da,f2,p1,p2]
     refine Zo hb Yt rfl ?_ (YB DA[a1 - 1]! DA[R.pivot]!) (Qm.flat rfl) rfl fun d h hR=>?_
     ·simp only[go_sem,simprocAttr]
     obtain ⟨rfl,rfl⟩:=hR
     refine QF hb ?_
     simp only[go_sem,simprocAttr]
     exact Ql.frame (by simp only[go_sem,simprocAttr,decide_eq_true ca,Bool.true_and])
    ·have da:decide ((0:Int)<(a1:Int))=false:=decide_eq_false (by omega)
     refine QA Qe hb 200 mixed [(0,true),(1,true),(2,true),(3,true),(4,true),(5,true),(6,true),(7,true),(8,true),(9,true),(10,true),(11,true),(12,false),(13,true),(14,true)] (by kernel_rfl) (by kernel_rfl) ?_
     simp only[go_sem,simprocAttr,Qa,Dx,Sm,z3,da]
     exact Ql.frame (by simp only[go_sem,simprocAttr,decide_eq_false ca,Bool.false_and])
   cases hB:(decide (a1 > 0) && !Qn DA[a1 - 1]! DA[R.pivot]!)
   ·rw[hB,if_neg (by decide)] at WM
    have hr:=QmI DA a1 b1 R.pivot Dw.1 Dw.2 (by omega)
    have Zz:=Mr DA a1 b1 R.pivot
    rw[if_pos hr] at WM
    refine Qc hb ?_
    simp only[go_sem,simprocAttr,Qa,hB]
    refine Q5 hb Qi2 rfl ?_ (z3▸Qml Dx a1 b1 R.pivot (by omega) (by omega) Dw.1 Dw.2 (by omega)) rfl fun d h hR=>?_
    ·simp only[go_sem,simprocAttr]
    obtain ⟨rfl,rfl⟩:=hR
    refine Qc hb ?_
    simp only[go_sem,simprocAttr]
    generalize Sort.partition Qn DA a1 b1 R.pivot=pt at *
    obtain ⟨VQ,rn,E⟩:=pt
    dsimp only at *
    have k1:IntKind.i64.wrap ((VQ:Int) - a1)=((VQ - a1:Nat):Int):=by rw[wrap64 (by omega) (by omega)];omega
    have k2:IntKind.i64.wrap ((b1:Int) - VQ)=((b1 - VQ:Nat):Int):=by rw[wrap64 (by omega) (by omega)];omega
    have k3:((b1 - a1:Nat):Int).tdiv 8=(((b1 - a1) / 8:Nat):Int):=rfl
    have k4:IntKind.i64.wrap ((((b1 - a1) / 8:Nat):Int))=(((b1 - a1) / 8:Nat):Int):=by rw[wrap64 (by omega) (by omega)]
    have k5:IntKind.i64.wrap ((VQ:Int)+1)=((VQ+1:Nat):Int):=by rw[wrap64 (by omega) (by omega)];omega
    have Ms:E.size=d.size:=by rw[Zz,z3]
    have rq:(HD.set lo (QO g E))[lo]? = some (QO g E):=Qw Sm
    by_cases Mt:VQ - a1<b1 - VQ
    ·have Gw:decide (VQ - a1<b1 - VQ)=true:=decide_eq_true Mt
     rw[if_pos Mt] at WM
     simp only[go_sem,simprocAttr,k1,k2,k3,k4,Gw]
     refine Qc hb ?_
     simp only[go_sem,simprocAttr,k1,k2,k3,k4,Gw]
     refine Q5 hb Pd rfl ?_ (Ms▸IH _ lo g E rq a1 VQ R.lim (by omega) (by omega) (by omega) (by omega) (by omega)) rfl fun d h hR=>?_
     ·simp only[go_sem,simprocAttr,k5]
     obtain ⟨rfl,t6,rfl⟩:=hR
     refine Qc hb ?_
     simp only[go_sem,simprocAttr,k5]
     have Sn:=yK _ E a1 VQ R.lim true true (Nat.le_refl _)
     refine ⟨by omega,_,?_,Sort.pdq Qn E a1 VQ R.lim true true,VQ+1,b1,R.lim,decide ((b1 - a1) / 8≤VQ - a1),rn,t5++t6,by rw[Sn,Ms],by omega,by omega,by omega,by omega,WM,rfl⟩
     rw[List.set_set,← Sl,xg Qf,List.append_assoc]
     exact Ql.frame (by simp only[go_sem,simprocAttr])
    ·have Gw:decide (VQ - a1<b1 - VQ)=false:=decide_eq_false Mt
     rw[if_neg Mt] at WM
     simp only[go_sem,simprocAttr,k1,k2,k3,k4,Gw]
     refine Qc hb ?_
     simp only[go_sem,simprocAttr,k1,k2,k3,k4,k5,Gw]
     refine Q5 hb Pd rfl ?_ (Ms▸IH _ lo g E rq (VQ+1) b1 R.lim (by omega) (by omega) (by omega) (by omega) (by omega)) rfl fun d h hR=>?_
     ·simp only[go_sem,simprocAttr]
     obtain ⟨rfl,t6,rfl⟩:=hR
     refine Qc hb ?_
     simp only[go_sem,simprocAttr]
     have Sn:=yK _ E (VQ+1) b1 R.lim true true (Nat.le_refl _)
     refine ⟨by omega,_,?_,Sort.pdq Qn E (VQ+1) b1 R.lim true true,a1,VQ,R.lim,decide ((b1 - a1) / 8≤b1 - VQ),rn,t5++t6,by rw[Sn,Ms],by omega,by omega,by omega,by omega,WM,rfl⟩
     rw[List.set_set,← Sl,xg Qf,List.append_assoc]
     exact Ql.frame (by simp only[go_sem,simprocAttr])
   ·rw[hB,if_pos rfl] at WM
    have hr:=QmH DA a1 b1 R.pivot (by omega)
    have Zz:=Sj DA a1 b1 R.pivot
    rw[if_pos hr] at WM
    refine Qc hb ?_
    simp only[go_sem,simprocAttr,Qa,hB]
    refine Q5 hb Qi1 rfl ?_ (z3▸Qmf Dx a1 b1 R.pivot (by omega) (by omega) Dw.1 Dw.2 (by omega)) rfl fun d h hR=>?_
    ·simp only[go_sem,simprocAttr]
    obtain ⟨rfl,rfl⟩:=hR
    refine Qc hb ?_
    simp only[go_sem,simprocAttr]
    refine ⟨by omega,_,?_,(Sort.partitionEqual Qn DA a1 b1 R.pivot).2,(Sort.partitionEqual Qn DA a1 b1 R.pivot).1,b1,R.lim,wb,wp,t5,by omega,by omega,by omega,by omega,by omega,WM,rfl⟩
    rw[← Sl,xg Qf]
    exact Ql.frame (by simp only[go_sem,simprocAttr])
theorem ru:∀ n,rj n
 | 0=>fun _ _ _ _ _ _ _ _ _ _ _ _ hn=>absurd hn (Nat.not_lt_zero _)
 | n+1=>fun h lo g d ho a b l JW hb hl hz hn=>QmK n (ru n) ho a b l JW hb hl hz hn
theorem QmP (n:Nat) (h:n<1000000000):Sort.bitsLen n≤30:=(Sort.bitsLen_le_iff n 30).2 (by omega)
theorem QmQ {h:List Ob} {lo g:Nat} {d:Array Int} (ho:h[lo]? = some (QO g d)) (hz:d.size<1000000000) :
  QG Tryz.prog 270 h [.ref lo g 0 d.size] (fun dd h'=>dd=.tup []∧∃ t,h'=h.set lo (QO g (Sort.sort Qn d))++t):=by
 have Jp:=QmP _ hz
 have w0:IntKind.u64.wrap (d.size:Int)=d.size:=by rw[IntKind.wrap_u64];omega
 refine QW Qe 200 Tryz.func270 rfl Tryz.ntmps270 Tryz.results270 rfl fun base w pl hb=>?_
 have Qf:=Qd ho
 simp only[go_sem,simprocAttr,Qa,ho,Qf,w0]
 refine QM hb mC rfl ?_ (HB d.size (by omega)) (Qm.flat rfl) rfl fun d h hR=>?_
 ·simp only[go_sem,simprocAttr]
 obtain ⟨rfl,rfl⟩:=hR
 refine Qc hb ?_
 simp only[go_sem,simprocAttr]
 refine Q5 hb Pd rfl ?_ (ru (d.size+1) h lo g d ho 0 d.size (Sort.bitsLen d.size) (Nat.zero_le _) (Nat.le_refl _) (by omega) hz (by omega)) rfl fun d h hR=>?_
 ·simp only[go_sem,simprocAttr]
 obtain ⟨rfl,t,rfl⟩:=hR
 refine Qc hb ?_
 simp only[go_sem,simprocAttr]
 exact ⟨t,rfl⟩
def cN (f:Nat→Int):Nat→List Int
 | 0=>[]
 | n+1=>if n≠0∧f n=f (n - 1) then cN f n else cN f n++[f n]
theorem Dy (f:Nat→Int):∀ n,(cN f n).length≤n
 | 0=>Nat.le_refl _
 | n+1=>by
  have:=Dy f n
  rw[cN]
  split
  ·omega
  ·simp;omega
theorem Sp (f:Nat→Int) (x:Int):∀ n,x∈cN f n↔∃ i,i<n∧f i=x
 | 0=>by simp [cN]
 | n+1=>by
  have ih:=Sp f x n
  rw[cN]
  split
  ·rename_i c
   rw[ih]
   constructor
   ·rintro ⟨i,h1,h2⟩;exact ⟨i,by omega,h2⟩
   ·rintro ⟨i,h1,h2⟩
    by_cases e:i=n
    ·subst e;exact ⟨i - 1,by omega,by rw[← c.2];exact h2⟩
    ·exact ⟨i,by omega,h2⟩
  ·rw[List.mem_append,ih]
   simp only[List.mem_singleton]
   constructor
   ·rintro (⟨i,h1,h2⟩ | h)
    ·exact ⟨i,by omega,h2⟩
    ·exact ⟨n,by omega,h.symm⟩
   ·rintro ⟨i,h1,h2⟩
    by_cases e:i=n
    ·subst e;exact Or.inr h2.symm
    ·exact Or.inl ⟨i,by omega,h2⟩
theorem Bo (f:Nat→Int):∀ n,(cN f n).length=n→∀ i,i<n→(cN f n).getD i 0=f i
 | 0,_,i,hi=>absurd hi (Nat.not_lt_zero _)
 | n+1,h,i,hi=>by
  have hle:=Dy f n
  rw[cN] at h ⊢
  split at h
  ·omega
  ·rename_i c
   rw[if_neg c]
   simp at h
   by_cases e:i=n
   ·subst e
    rw[List.getD_eq_getElem?_getD,List.getElem?_append_right (by omega),h,Nat.sub_self]
    rfl
   ·rw[List.getD_eq_getElem?_getD,List.getElem?_append_left (by omega),← List.getD_eq_getElem?_getD]
    exact Bo f n h i (by omega)
theorem QmR (g:Nat) (d:Array Int) (i n:Nat) (x:Int) (hn:d.size=n) (hi:i<n) :
  (⟨.arr,g,1,n,fun k=>bif k == i then [.raw (.int .u64 x)] else [.raw (.int .u64 d[k]!)]⟩:Ob)=QO g (d.setIfInBounds i x):=by
 subst hn
 unfold QO
 congr 1
 ·simp
 ·funext k
  unfold jX uI
  by_cases k1:k=i
  ·subst k1
   simp [hi]
  ·have e1:(k == i)=false:=beq_eq_false_iff_ne.mpr k1
   rw[e1]
   by_cases k3:k<d.size
   ·simp [k1,k3,Ne.symm k1,Array.getElem_setIfInBounds]
   ·simp [k1,k3]
theorem QmS {h:List Ob} {lo g:Nat} {d:Array Int} (ho:h[lo]? = some (QO g d)) (hz:d.size<1000000000) :
  QG Tryz.prog 271 h [.ref lo g 0 d.size] (fun dd h'=>dd=.ref lo g 0 (cN (fun i=>d[i]!) d.size).length∧∃ row,h'=h.set lo ⟨.arr,g,1,d.size,row⟩∧(∀ i,i<(cN (fun i=>d[i]!) d.size).length→row i=[uI ((cN (fun i=>d[i]!) d.size).getD i 0)])∧∀ i,∃ x,row i=[uI x]):=by
 by_cases c2:d.size<2
 ·have e2:decide ((d.size:Int)<2)=true:=decide_eq_true (by omega)
  have hlen:(cN (fun i=>d[i]!) d.size).length=d.size:=by
   have:d.size=0∨d.size=1:=by omega
   rcases this with h0 | h0 <;> rw[h0] <;> rfl
  rw[hlen]
  refine QW Qe 200 Tryz.func271 rfl Tryz.ntmps271 Tryz.results271 rfl fun base w pl hb=>?_
  have Qf:=Qd ho
  simp only[go_sem,simprocAttr,Qa,ho,Qf,e2]
  exact ⟨jX d,(YC ho).symm,fun i hi=>by rw[Bo _ _ hlen i hi];rfl,fun i=>⟨_,rfl⟩⟩
 ·have e2:decide ((d.size:Int)<2)=false:=decide_eq_false (by omega)
  refine QW Qe 200 Tryz.func271 rfl Tryz.ntmps271 Tryz.results271 rfl fun base w pl hb=>?_
  have Qf:=Qd ho
  simp only[go_sem,simprocAttr,Qa,ho,Qf,e2]
  refine ZB (fun k st=>k+1≤d.size∧(cN (fun i=>d[i]!) (k+1)).length=k+1∧st=⟨[(0,.ref lo g 0 d.size),(3,Qb (k+1:Nat))],h⟩) d.size (s0:=⟨[(0,.ref lo g 0 d.size),(3,Qb (0+1:Nat))],h⟩) (Ql.frame (by simp only[go_sem,simprocAttr])) ⟨by omega,rfl,rfl⟩ ?_
  rintro k _ hk ⟨Qq,ZY,rfl⟩
  by_cases ck:k+1<d.size
  ·have ek:decide (k+1<d.size)=true:=decide_eq_true ck
   have v1:IntKind.i64.wrap (((k+1:Nat):Int) - 1)=((k:Nat):Int):=by rw[wrap64 (by omega) (by omega)];omega
   have v2:IntKind.i64.wrap (((k+1:Nat):Int)+1)=((k+1+1:Nat):Int):=by rw[wrap64 (by omega) (by omega)];omega
   have p0:k<d.size:=by omega
   refine Qc hb ?_
   simp only[go_sem,simprocAttr,Qa,ho,Qf,ek]
   refine QA Qe hb 200 mixed [(0,true),(1,true),(2,true),(3,true),(4,true),(5,true),(6,true),(7,true),(8,true),(9,true)] (by kernel_rfl) (by kernel_rfl) ?_
   simp only[go_sem,simprocAttr,Qa,ho,Qf,v1,ck,p0]
   by_cases WX:d[k+1]! = d[k]!
   ·have Bp:(d[k+1]! == d[k]!)=true:=beq_iff_eq.mpr WX
    have ZO:(cN (fun i=>d[i]!) (k+1+1)).length=k+1:=by
     rw[cN,if_pos ⟨by omega,by simpa using WX⟩,ZY]
    have q0:k+1≤d.size:=by omega
    generalize hN:d.size - (k+1)=N
    have v3:((d.size:Int) - ((k+1:Nat):Int)).toNat=N:=by omega
    simp only[go_sem,simprocAttr,Bp,q0,hN,Qa,ho,Qf,v3]
    refine ZB (fun m st=>∃ (d1:Array Int),d1.size=d.size∧m+1≤N∧(cN (fun i=>d[i]!) (k+1+(m+1))).length≤k+1+m∧(∀ i,i<(cN (fun i=>d[i]!) (k+1+(m+1))).length→d1[i]! = (cN (fun i=>d[i]!) (k+1+(m+1))).getD i 0)∧(∀ j,(cN (fun i=>d[i]!) (k+1+(m+1))).length≤j→d1[j]! = d[j]!)∧st=⟨[(0,.ref lo g 0 d.size),(3,Qb (cN (fun i=>d[i]!) (k+1+(m+1))).length),(4,.ref lo g (k+1) N),(5,Qb (m+1:Nat))],h.set lo (QO g d1)⟩) N (s0:=⟨[(0,.ref lo g 0 d.size),(3,Qb (cN (fun i=>d[i]!) (k+1+(0+1))).length),(4,.ref lo g (k+1) N),(5,Qb (0+1:Nat))],h.set lo (QO g d)⟩) ?_ ⟨d,rfl,by omega,Nat.le_of_eq ZO,fun i hi=>?_,fun j hj=>rfl,rfl⟩ ?_
    ·rw[YC ho,ZO]
     exact Ql.frame (by simp only[go_sem,simprocAttr])
    ·rw[cN,if_pos ⟨by omega,by simpa using WX⟩] at hi ⊢
     exact (Bo _ _ ZY i (by omega)).symm
    rintro m _ hm ⟨d1,Zf,hmN,FV,Bq,xh,rfl⟩
    have Ze:=X9 (g:=g) (d:=d1) Qf
    have xi:cN (fun i=>d[i]!) (k+1+(m+1+1))=if d[k+1+(m+1)]! = d[k+1+m]! then cN (fun i=>d[i]!) (k+1+(m+1)) else cN (fun i=>d[i]!) (k+1+(m+1))++[d[k+1+(m+1)]!]:=by
     rw[show k+1+(m+1+1)=(k+1+(m+1))+1 by omega,cN]
     simp
    generalize hC:cN (fun i=>d[i]!) (k+1+(m+1))=C at *
    generalize hH:h.set lo (QO g d1)=H at Ze
    have Jk:=Qd Ze
    by_cases cm:m+1<N
    ·have em:decide (m+1<N)=true:=decide_eq_true cm
     have r1:=xh (k+1+(m+1)) (by omega)
     have r2:=xh (k+1+m) (by omega)
     have u1:k+1+(m+1)<d.size:=by omega
     have u2:k+1+m<d.size:=by omega
     have u3:m<N:=by omega
     have w1:IntKind.i64.wrap (((m+1:Nat):Int) - 1)=(m:Int):=by rw[wrap64 (by omega) (by omega)];omega
     have w2:IntKind.i64.wrap (((m+1:Nat):Int)+1)=((m+1+1:Nat):Int):=by rw[wrap64 (by omega) (by omega)];omega
     have w3:IntKind.i64.wrap ((C.length:Int)+1)=((C.length+1:Nat):Int):=by rw[wrap64 (by omega) (by omega)];omega
     refine Qc hb ?_
     simp only[go_sem,simprocAttr,Qa,Ze,Jk,em]
     refine QA Qe hb 200 mixed [(0,true),(1,true),(2,true),(3,true),(4,true),(5,true),(6,true),(7,true),(8,true),(9,true)] (by kernel_rfl) (by kernel_rfl) ?_
     simp only[go_sem,simprocAttr,Qa,Ze,Jk,Zf,w1,cm,u1,u2,u3,r1,r2]
     by_cases cq:d[k+1+(m+1)]! = d[k+1+m]!
     ·have nq:(d[k+1+(m+1)]! != d[k+1+m]!)=false:=by rw[cq];exact bne_self_eq_false _
      rw[if_pos cq] at xi
      simp only[go_sem,simprocAttr,nq,w2]
      rw[xi]
      refine ⟨by omega,_,?_,d1,Zf,by omega,by omega,Bq,xh,rfl⟩
      rw[← hH]
      exact Ql.frame (by simp only[go_sem,simprocAttr])
     ·have nq:(d[k+1+(m+1)]! != d[k+1+m]!)=true:=bne_iff_ne.mpr cq
      have u4:C.length<d.size:=by omega
      rw[if_neg cq] at xi
      simp only[go_sem,simprocAttr,nq,w2,w3,Qa,Ze,Jk,Zf,u1,cm,u4,r1]
      rw[QmR g d1 _ _ _ Zf u4,xi]
      refine ⟨by omega,_,?_,d1.setIfInBounds C.length d[k+1+(m+1)]!,by simp;exact Zf,by omega,by simp;omega,fun i hi=>?_,fun j hj=>?_,rfl⟩
      ·rw[← hH,List.set_set,List.length_append,List.length_singleton]
       exact Ql.frame (by simp only[go_sem,simprocAttr])
      ·simp only[List.length_append,List.length_singleton] at hi
       by_cases e:i=C.length
       ·subst e
        rw[List.getD_eq_getElem?_getD,List.getElem?_append_right (Nat.le_refl _),Nat.sub_self]
        simp [Zf,u4]
       ·rw[List.getD_eq_getElem?_getD,List.getElem?_append_left (by omega),← List.getD_eq_getElem?_getD,← Bq i (by omega)]
        simp [Ne.symm e,Array.getElem!_eq_getD,Array.getD_eq_getD_getElem?,Array.getElem?_setIfInBounds]
      ·simp only[List.length_append,List.length_singleton] at hj
       rw[← xh j (by omega)]
       simp [show C.length≠j by omega,Array.getElem!_eq_getD,Array.getD_eq_getD_getElem?,Array.getElem?_setIfInBounds]
    ·have em:decide (m+1<N)=false:=decide_eq_false cm
     have Sq:k+1+(m+1)=d.size:=by omega
     rw[Sq] at hC
     rw[hC]
     have g1:C.length≤d.size:=by omega
     have g2:((d.size:Int) - (C.length:Int)).toNat=d.size - C.length:=by omega
     refine Qc hb ?_
     simp only[go_sem,simprocAttr,Qa,Ze,Jk,em]
     refine Qc hb ?_
     simp only[go_sem,simprocAttr,Qa,Ze,Jk,Zf,g1,g2]
     refine PK kP hb rfl Ze rfl rfl rfl rfl (by dsimp only[QO];omega) rfl rfl rfl rfl ?_
     refine Qc hb ?_
     simp only[go_sem,simprocAttr,Qa,Qw Jk,Jk,Zf,g1]
     refine ⟨by simp,We C.length (d.size - C.length) [D.raw (.int .u64 0)] (jX d1),?_,fun i hi=>?_,fun i=>?_⟩
     ·rw[← hH,List.set_set]
     ·rw[PI hi]
      show [uI d1[i]!]=_
      rw[Bq i hi]
      rfl
     ·unfold We
      cases Nat.ble C.length i && Nat.blt i (C.length+(d.size - C.length))
      ·exact ⟨d1[i]!,rfl⟩
      ·exact ⟨0,rfl⟩
   ·have Bp:(d[k+1]! == d[k]!)=false:=beq_eq_false_iff_ne.mpr WX
    simp only[go_sem,simprocAttr,Bp,v2]
    refine ⟨by omega,_,?_,by omega,?_,rfl⟩
    ·exact Ql.frame (by simp only[go_sem,simprocAttr])
    ·rw[cN,if_neg (by simpa using WX)]
     simp [ZY]
  ·have ek:decide (k+1<d.size)=false:=decide_eq_false ck
   obtain Z9:k+1=d.size:=by omega
   rw[Z9] at ZY
   refine Qc hb ?_
   simp only[go_sem,simprocAttr,Qa,ho,Qf,ek]
   refine Qc hb ?_
   simp only[go_sem,simprocAttr]
   rw[ZY]
   exact ⟨rfl,jX d,(YC ho).symm,fun i hi=>by rw[Bo _ _ ZY i hi];rfl,fun i=>⟨_,rfl⟩⟩
theorem xj:IntKind.i64.wrap 1=1:=by decide
theorem vv:IntKind.i64.wrap 0=0:=by decide
def rv (F:List Ob) (f nf:Nat) (QB:List D) (g:Nc→Bool):Prop:=∀ (h:List Ob) (c:Nc),JY F h→QQ Tryz.prog f h (Z6 nf QB [vj c]) (fun d=>d=QN (g c))
def Br (g:Nc→Bool) (l:List Nc):Int:=match l.findIdx? g with
 | some i=>i
 | none=>-1
theorem QmU {g:Nc→Bool} {l:List Nc} {k:Nat} (hk:k<l.length) (h:∀ i,i<k→g (l.getD i default)=false) (hg:g (l.getD k default)=true):Br g l=k:=by
 have e:l.findIdx? g=some k:=by
  rw[List.findIdx?_eq_some_iff_getElem]
  refine ⟨hk,by simpa [List.getD_eq_getElem?_getD,hk] using hg,fun i hi=>?_⟩
  have:=h i hi
  simpa [List.getD_eq_getElem?_getD,show i<l.length by omega] using this
 rw[Br,e]
theorem QmV {g:Nc→Bool} {l:List Nc} (h:∀ i,i<l.length→g (l.getD i default)=false):Br g l=-1:=by
 have e:l.findIdx? g=none:=by
  rw[List.findIdx?_eq_none_iff]
  intro x hx
  obtain ⟨i,hi,rfl⟩:=List.getElem_of_mem hx
  have:=h i hi
  simpa [List.getD_eq_getElem?_getD,hi] using this
 rw[Br,e]
theorem QmW (g:Nc→Bool) (l:List Nc):decide (0≤Br g l)=l.any g:=by
 unfold Br
 cases h:l.findIdx? g with
 | some i=>
  obtain ⟨h1,h2,_⟩:=List.findIdx?_eq_some_iff_getElem.1 h
  have e:l.any g=true:=List.any_eq_true.2 ⟨_,List.getElem_mem h1,h2⟩
  rw[e];simp
 | none=>
  have:=List.findIdx?_eq_none_iff.1 h
  have e:l.any g=false:=by rw[List.any_eq_false];intro x hx;simp [this x hx]
  rw[e];decide
section
variable (h:List Ob) (l:List Nc) (hlen:l.length<1048576)
include hlen
theorem QmX (so:D) (f nf:Nat) (QB:List D) (hf:Qo Tryz.prog f) (JP:J6 so=some (f,nf,QB)) (gk:Nc→Bool) (hg:rv (h.map Ob.ro) f nf QB gk) :
  QQ Tryz.prog 269 h [Vi l,so] (fun d=>d=Qb (Br gk l)):=by
 refine Zh Qe 200 Tryz.func269 rfl Tryz.ntmps269 Tryz.results269 rfl fun base w pl F hF QR hb=>?_
 simp only[go_sem,simprocAttr,Qa]
 refine ZB (fun k s=>(∀ i,i<k→gk (l.getD i default)=false)∧s=⟨[(0,Vi l),(1,so),(7,Qb l.length),(8,Qb k)],F⟩) l.length (Ql.frame (by simp only[go_sem,simprocAttr])) ⟨fun i hi=>absurd hi (by omega),rfl⟩ ?_
 rintro k s hk ⟨hn,rfl⟩
 refine Qc hb ?_
 simp only[go_sem,simprocAttr,Qa]
 have Zl:=KG (show k<4611686018427387904 by omega)
 first | refine kI hk (fun Qq=>?_) (fun Qq=>?_) | refine kJ hk (fun Qq=>?_) (fun Qq=>?_)
 ·simp only[go_sem,simprocAttr,Qa,Qq]
  refine QL hb hf JP ?_ (hg F (l.getD k default) (by rw[← hF];exact JY.refl F)) rfl fun d2 hR=>?_
  ·simp only[go_sem,simprocAttr]
   exact kW _
  subst hR
  refine Qc hb ?_
  cases Xp:gk (l.getD k default)
  ·simp only[go_sem,simprocAttr,Qa]
   refine ⟨Qq,_,Ql.frame (fr':=[(0,Vi l),(1,so),(7,Qb l.length),(8,Qb (k+1:Nat))]) (by simp only[go_sem,simprocAttr,Zl]),fun i hi=>?_,rfl⟩
   by_cases h1:i<k
   ·exact hn i h1
   ·have:i=k:=by omega
    subst this;exact Xp
  ·rw[QmU Qq hn Xp]
   simp only[go_sem,simprocAttr,Qa]
   exact ⟨[],(List.append_nil F).symm⟩
 ·have Qq:k=l.length:=by omega
  subst Qq
  simp only[go_sem,simprocAttr,Nat.lt_irrefl]
  rw[QmV hn]
  refine Qc hb ?_
  simp only[go_sem,simprocAttr,Qa]
  exact ⟨[],(List.append_nil F).symm⟩
theorem QmY (so:D) (f nf:Nat) (QB:List D) (hf:Qo Tryz.prog f) (JP:J6 so=some (f,nf,QB)) (gk:Nc→Bool) (hg:rv (h.map Ob.ro) f nf QB gk) :
  QQ Tryz.prog 223 h [Vi l,so] (fun d=>d=QN (l.any gk)):=by
 rw[← QmW]
 refine Zh Qe 200 Tryz.func223 rfl Tryz.ntmps223 Tryz.results223 rfl fun base w pl F hF QR hb=>?_
 simp only[go_sem,simprocAttr,Qa]
 refine QL hb QiM rfl ?_ (QmX F l hlen so f nf QB hf JP gk (fun h' n hx=>?_)) rfl fun d2 hR=>?_
 ·simp only[go_sem,simprocAttr]
  exact AR so
 ·rw[hF,Pv] at hx
  exact hg h' n hx
 subst hR
 refine Qc hb ?_
 simp only[go_sem,simprocAttr,Qa]
 exact ⟨[],(List.append_nil F).symm⟩
end
theorem QmZ (h:List Ob) (c:Nc):QQ Tryz.prog 224 h [vj c] (fun d=>d=QN (c.of == 0)):=by
 refine Zh Qe 200 Tryz.func224 rfl Tryz.ntmps224 Tryz.results224 rfl fun base w pl F hF QR hb=>?_
 simp only[go_sem,simprocAttr,Qa]
 refine QM hb CD rfl ?_ (RC c.a c.d c.b) (Qm.flat rfl) rfl fun d h hR=>?_
 ·simp only[go_sem,simprocAttr,Qa]
 obtain ⟨rfl,rfl⟩:=hR
 refine Qc hb ?_
 simp only[go_sem,simprocAttr,Qa]
 refine ⟨_,rfl,?_⟩
 simp only[bne,Bool.not_not]
 rfl
def ry (l:List Nc):Bool:=l.any fun c=>c.of == 0
def zS (t:Int) (l:List Nc):Int:=if t<1∨65536<t then 1 else if ry l=true then 21 else 0
theorem Mu (t:Int) (l:List Nc) (hl:l.length<1048576):Q7 Tryz.prog 187 [Qb t,Vi l] (Qm (Qb (zS t l))):=by
 have rA:=QmY [] l hl (.raw (.func (.func 224) ⟨[]⟩ ⟨[]⟩)) 224 0 [] QiF rfl (fun c=>c.of == 0) (fun h' c _=>QmZ h' c)
 rw[show (l.any fun c=>c.of == 0)=ry l from rfl] at rA
 refine Zk 0 Qe 200 Tryz.func187 rfl Tryz.ntmps187 Tryz.results187 rfl fun base w hb=>?_
 simp only[go_sem,simprocAttr]
 repeat' (first | ((first | refine Fc (fun h=>?_) (fun h=>?_) | refine Fe (fun h=>?_) (fun h=>?_) | refine Ff (fun h=>?_) (fun h=>?_) | refine jy (fun h=>?_) (fun h=>?_) | refine Fh (fun h=>?_) (fun h=>?_) | refine Fi (fun h=>?_) (fun h=>?_) | refine Fj (fun h=>?_) (fun h=>?_) | refine E7 (fun h=>?_) (fun h=>?_)) <;> (try simp only[go_sem,simprocAttr,Go.undef])) | (refine And.intro (by first | assumption | omega) ?_;try simp only[go_sem,simprocAttr,Go.undef]) | (refine QL hb QiE rfl ?_ (rA) rfl ?_;(· simp only[go_sem,simprocAttr,Qa,Go.undef]);intro d hR;subst hR;refine Qc hb ?_;simp only[go_sem,simprocAttr,Qa,Go.undef]) | fail)
 all_goals (congr 2;unfold zS;simp_all;try omega)
end Go.Fg.X
namespace Go.Fg.X
open Go.Proofs Go.Fg
open Go.RowKit (Below)
theorem QT.nil {Z:Nat→Prop} {base:Nat} {w:World}:QT Z base [] [] w:=⟨rfl,fun l l' b q q' e1 e2=>by simp at e1,fun l o e=>by simp at e,fun l o b q e=>by simp at e⟩
theorem Qm0 {P:Program} {f:FuncId} {args:List D} {R:D→List Ob→Prop} (d2:D) (hu:d2.upto 0=true)
  (hd:∀ d hh,R d hh→Ja 6 d d2∨∃ lo g sz n row,hh[lo]? = some ⟨.arr,g,sz,n,row⟩∧(∀ i,i<n→(row i).all D.ky=true)∧Ja 6 (D.fz lo g n sz row d) d2) (h:Q7 P f args R):Q7 P f args (Qm d2):=by
 intro Z base w pl vs h1 h2 h3 hl hc
 have QZ:pl=[]:=by have:=h3.len;simpa using this
 subst QZ
 refine (h Z base w [] vs h1 h2 h3 hl hc).mono fun e w' he=>?_
 obtain ⟨v,d,hh,Qg,rfl,hR,hO,hV,hT,hB⟩:=he
 suffices fin:Qv Z [] [] w' d2 v by
  exact ⟨v,_,[],[],rfl,⟨rfl,rfl⟩,QT.nil,fin,⟨fun b hb Qd=>⟨hb,(hT.JI b hb Qd).2⟩,fun l o p e=>by simp at e,fun l o o' b q e=>by simp at e⟩,hB⟩
 rcases hd _ _ hR with hle | ⟨lo,g,sz,n,row,Zp,ZY,hle⟩
 ·exact (kN 6 hle hV).take hu
 have Qd:lo<Qg.length:=by rw[hO.len];exact (List.getElem?_eq_some_iff.1 Zp).1
 obtain ⟨p,hp⟩:∃ p,Qg[lo]? = some p:=⟨_,List.getElem?_eq_getElem Qd⟩
 have LP:=hV.fz (l:=lo) (o:=⟨.arr,g,sz,n,row⟩) (p:=p) Zp hp rfl (fun b q e=>by
  subst e
  refine ⟨h2 b ?_,fun l' q' e'=>?_,(hO.at_ lo _ b q Zp hp).2.cells rfl⟩
  ·rcases Nat.lt_or_ge b w.heap.size with Qd | vX
   ·exact absurd hp ((hT.JI b (fun i q e=>by simp at e) Qd).1 lo q)
   ·exact vX
  ·exact hO.inj _ _ _ _ _ e' hp) ZY (h':=hh.set lo (Ob.gone ⟨.arr,g,sz,n,row⟩)) (fun l' o' QD e=>by
  exact ⟨o',by rw[List.getElem?_set_ne (Ne.symm QD)];exact e,rfl,rfl,rfl⟩)
 exact (kN 6 hle LP).take hu
end Go.Fg.X
namespace Go.Fg
theorem Kd.rB (k:Kd):k.EP k:=by cases k <;> simp [Kd.EP,Kd.ty]
theorem rC (o:Ob):B6 o o:=⟨rfl,rfl,rfl,Kd.rB _,fun _ _=>rfl⟩
theorem rD:∀ h:List Ob,jv h h
 | []=>trivial
 | o::r=>⟨rC o,rD r⟩
theorem rE:∀ {h:List Ob} {l:Nat} {o:Ob} (KK:Nat→List D),h[l]? = some o→(∀ i,i<o.n→o.row i=KK i)→jv h (h.set l ⟨o.kd,o.gen,o.sz,o.n,KK⟩)
 | [],l,o,KK,e,_=>by simp at e
 | x::r,0,o,KK,e,he=>by
  simp only[List.getElem?_cons_zero,Option.some.injEq] at e
  subst e
  exact ⟨⟨rfl,rfl,rfl,Kd.rB _,fun i hi=>(he i hi).symm⟩,rD r⟩
 | x::r,l+1,o,KK,e,he=>⟨rC x,rE (h:=r) KK (by simpa using e) he⟩
theorem Ql.rows {w0:Start} {fr:List (Nat × D)} {h:List Ob} (l:Nat) {o:Ob} (KK:Nat→List D) (ho:h[l]? = some o) (he:∀ i,i<o.n→o.row i=KK i):Ql w0 ⟨fr,h⟩ ⟨fr,h.set l ⟨o.kd,o.gen,o.sz,o.n,KK⟩⟩:=(Wk.x6 (rE KK ho he)).up
end Go.Fg
namespace Go.Fg.X
open Go.Proofs Go.Fg
def xk (c:Nc):Bool:=c.of == 3 || c.of == 4
def KL (l:List Nc):List Int:=(l.filter xk).map fun c=>(c.d:Int)
theorem Qm1 (l:List Nc) (i:Nat) (h:i<l.length):KL (l.take (i+1))=if xk (l.getD i default)=true then KL (l.take i)++[((l.getD i default).d:Int)] else KL (l.take i):=by
 unfold KL
 rw[List.take_add_one,List.getElem?_eq_getElem h]
 simp only[Option.toList_some,List.filter_append,List.getD_eq_getElem?_getD,List.getElem?_eq_getElem h,Option.getD_some,List.map_append]
 by_cases hg:xk l[i]=true
 ·rw[if_pos hg,List.filter_cons_of_pos hg];rfl
 ·rw[if_neg hg,List.filter_cons_of_neg hg];simp
theorem Sr (l:List Nc) (i:Nat):(KL (l.take i)).length≤i:=by
 have:=List.length_filter_le xk (l.take i)
 simp only[KL,List.length_map]
 simp at this;omega
def XC (l:List Nc):Array Int:=Sort.sort Qn (KL l).toArray
def Ky (l:List Nc):List Int:=cN (fun i=>(XC l)[i]!) (XC l).size
theorem Ss (l:List Nc):(XC l).size=(KL l).length:=by
 unfold XC Sort.sort
 rw[yK _ _ _ _ _ _ _ (Nat.le_refl _)]
 rfl
theorem Qm2 (l:List Nc):(XC l).toList.Perm (KL l):=by
 have h:=(Sort.sort_sorts Qn ri (KL l).toArray).1.2.2
 have e1:((Sort.sort Qn (KL l).toArray).extract 0 (KL l).toArray.size).toList=(XC l).toList:=by
  have:=Ss l
  unfold XC at this ⊢
  rw[show (KL l).toArray.size=(Sort.sort Qn (KL l).toArray).size from this.symm]
  simp
 rw[e1] at h
 simpa using h
theorem Qm3 (l:List Nc) (x:Int):x∈Ky l↔∃ c,c∈l∧xk c=true∧(c.d:Int)=x:=by
 unfold Ky
 rw[Sp]
 have h1:(∃ i,i<(XC l).size∧(XC l)[i]! = x)↔x∈(XC l).toList:=by
  rw[List.mem_iff_getElem]
  constructor
  ·rintro ⟨i,hi,e⟩
   exact ⟨i,by simpa using hi,by rw[← e,Array.getElem!_eq_getD,Array.getD_eq_getD_getElem?,Array.getElem?_eq_getElem hi];simp⟩
  ·rintro ⟨i,hi,e⟩
   have ZE:i<(XC l).size:=by simpa using hi
   exact ⟨i,ZE,by rw[← e,Array.getElem!_eq_getD,Array.getD_eq_getD_getElem?,Array.getElem?_eq_getElem ZE];simp⟩
 rw[h1,(Qm2 l).mem_iff]
 simp [KL,and_assoc]
@[go_sem] def Dz (K:List Int):D:=.imm 1 K.length fun i=>[uI (K.getD i 0)]
theorem Qm4 {M:List Int} {row:Nat→List D} (hr:X6 (fun n:Int=>[uI n]) M 0 row):∀ i,i<M.length→row i=jX M.toArray i:=fun i hi=>by
 have:=hr.at_ i hi
 rw[Nat.zero_add] at this
 rw[this]
 unfold jX
 simp [List.getD_eq_getElem?_getD,List.getElem?_eq_getElem hi,hi]
theorem Qm5 (l:List Nc) (hl:l.length<1048576):Q7 Tryz.prog 226 [Vi l] (Qm (Dz (Ky l))):=by
 refine Qm0 (Dz (Ky l)) rfl (?_:∀ d hh,(∃ g n row,d=.ref 0 g 0 (Ky l).length∧hh=[⟨.arr,g,1,n,row⟩]∧(∀ i,i<n→(row i).all D.ky=true)∧(Ky l).length≤n∧∀ i,i<(Ky l).length→row i=[uI ((Ky l).getD i 0)])→_) ?_
 ·rintro d hh ⟨g,n,row,rfl,rfl,ZY,hn,ZN⟩
  right
  refine ⟨0,g,1,n,row,rfl,ZY,?_⟩
  have e1:D.fz 0 g n 1 row (.ref 0 g 0 (Ky l).length)=.imm 1 (Ky l).length (rowFrom 0 row):=by simp [D.fz,E6,hn]
  rw[e1]
  simp only[Dz]
  rw[Fo]
  refine ⟨rfl,rfl,fun i hi=>?_⟩
  rw[Fk,Nat.zero_add,ZN i hi]
  exact yd (yf _) _
 refine Zk 1 Qe 200 Tryz.func226 rfl Tryz.ntmps226 Tryz.results226 rfl fun base w hb=>?_
 simp only[go_sem,simprocAttr]
 refine ZB (fun i s=>∃ g row,X6 (fun n:Int=>[uI n]) (KL (l.take i)) 0 row∧s=⟨[(3,.ref 0 g 0 (KL (l.take i)).length),(7,Vi l),(8,Qb l.length),(9,Qb i)],[⟨.arr,g,1,(KL (l.take i)).length,row⟩]⟩) l.length
  (s0:=⟨[(3,.ref 0 0 0 0),(7,Vi l),(8,Qb l.length),(9,Qb 0)],[⟨.arr,0,1,0,fun _=>[]⟩]⟩)
  (Ql.trans (Ql.xD 3 1 (fun i=>[]) rfl) (Ql.frame (by simp only[go_sem,simprocAttr]))) ⟨0,fun _=>[],.nil,rfl⟩ ?_
 rintro i s hi ⟨g,row,hr,rfl⟩
 have ZY:=Sr l i
 have Zl:=KG (show i<4611686018427387904 by omega)
 refine Qc hb ?_
 simp only[go_sem,simprocAttr]
 first | refine kI hi (fun Qq=>?_) (fun Qq=>?_) | refine kJ hi (fun Qq=>?_) (fun Qq=>?_)
 ·obtain ⟨M,hM⟩:∃ M,M=KL (l.take i):=⟨_,rfl⟩
  obtain ⟨e,he⟩:∃ e,e=l.getD i default:=⟨_,rfl⟩
  have ZH:=Qm1 l i Qq
  rw[← hM,← he] at ZH
  rw[← hM] at hr ZY ⊢
  have Bs:M.length≤4294967295:=by omega
  have Wd:X6 (fun n:Int=>[uI n]) (M++[(e.d:Int)]) 0 (JJ M.length 0 row fun _=>[uI e.d]):=hr.app (e.d:Int) rfl
  simp only[go_sem,simprocAttr,Qq,← he]
  refine QM hb wv rfl ?_ (Gd e.a e.d e.b) (Qm.flat rfl) rfl fun d h hR=>?_
  ·simp only[go_sem,simprocAttr]
  obtain ⟨rfl,rfl⟩:=hR
  refine Qc hb ?_
  simp only[go_sem,simprocAttr]
  cases e3:JR e.a e.d e.b == 3
  ·cases e4:JR e.a e.d e.b == 4
   ·have hb:xk e=false:=by show (JR e.a e.d e.b == 3 || JR e.a e.d e.b == 4)=false;rw[e3,e4];rfl
    rw[hb,if_neg (by decide)] at ZH
    simp only[go_sem,simprocAttr,e3,e4,Go.undef]
    repeat (refine And.intro (by omega) ?_)
    refine ⟨_,Ql.to 1 ⟨?_,by simp only[go_sem,simprocAttr],?_,?_⟩,g,row,by rw[ZH];exact hr,rfl⟩
    ·simp only[go_sem,simprocAttr,Zl,ZH,List.length_append,List.length_singleton]
    ·exact ⟨fun j hj=>hr.upto (fun a=>rfl) j (by have W4:=hj;simp only[ZH] at W4;simpa using W4),trivial⟩
    ·simp only[go_sem,simprocAttr,ZH,List.length_append,List.length_singleton]
   ·have hb:xk e=true:=by show (JR e.a e.d e.b == 3 || JR e.a e.d e.b == 4)=true;rw[e3,e4];rfl
    rw[hb,if_pos rfl] at ZH
    simp only[go_sem,simprocAttr,e3,e4,Go.undef,Bs]
    repeat (refine And.intro (by omega) ?_)
    refine ⟨_,Ql.to 1 ⟨?_,by simp only[go_sem,simprocAttr],?_,?_⟩,g+1,_,by rw[ZH];exact Wd,rfl⟩
    ·simp only[go_sem,simprocAttr,Zl,ZH,List.length_append,List.length_singleton]
    ·exact ⟨fun j hj=>Wd.upto (fun a=>rfl) j (by have W4:=hj;simp only[ZH] at W4;simpa using W4),trivial⟩
    ·simp only[go_sem,simprocAttr,ZH,List.length_append,List.length_singleton]
  ·have hb:xk e=true:=by show (JR e.a e.d e.b == 3 || JR e.a e.d e.b == 4)=true;rw[e3];rfl
   rw[hb,if_pos rfl] at ZH
   simp only[go_sem,simprocAttr,e3,Go.undef,Bs]
   repeat (refine And.intro (by omega) ?_)
   refine ⟨_,Ql.to 1 ⟨?_,by simp only[go_sem,simprocAttr],?_,?_⟩,g+1,_,by rw[ZH];exact Wd,rfl⟩
   ·simp only[go_sem,simprocAttr,Zl,ZH,List.length_append,List.length_singleton]
   ·exact ⟨fun j hj=>Wd.upto (fun a=>rfl) j (by have W4:=hj;simp only[ZH] at W4;simpa using W4),trivial⟩
   ·simp only[go_sem,simprocAttr,ZH,List.length_append,List.length_singleton]
 ·have h1:i=l.length:=by omega
  subst h1
  rw[List.take_length] at hr ⊢
  have Zz:(KL l).toArray.size=(KL l).length:=rfl
  have Z1:(KL l).length≤l.length:=by have:=Sr l l.length;rw[List.take_length] at this;exact this
  have Mv:=Ss l
  have hcn:=Dy (fun i=>(XC l)[i]!) (XC l).size
  refine Qc hb ?_
  simp only[go_sem,simprocAttr]
  refine IP (Ql.rows 0 (jX (KL l).toArray) (by exact rfl) ?_) ?_
  ·intro i hi;dsimp only at hi ⊢;exact Qm4 hr i hi
  simp only[go_sem,simprocAttr]
  refine Q5 hb QiN rfl ?_ (QmQ (h:=[QO g (KL l).toArray]) (lo:=0) (g:=g) (d:=(KL l).toArray) rfl (by rw[Zz];omega)) rfl fun d h hR=>?_
  ·simp only[go_sem,simprocAttr,List.size_toArray]
  obtain ⟨rfl,t,rfl⟩:=hR
  refine Qc hb ?_
  simp only[go_sem,simprocAttr,List.size_toArray]
  refine Q5 hb QiO rfl ?_ (Mv▸QmS (h:=[QO g (KL l).toArray].set 0 (QO g (XC l))++t) (lo:=0) (g:=g) (d:=XC l) rfl (by omega)) rfl fun d h hR=>?_
  ·simp only[go_sem,simprocAttr]
  obtain ⟨rfl,W9,rfl,Qm6,K9⟩:=hR
  refine Qc hb ?_
  simp only[go_sem,simprocAttr]
  refine ⟨fun i hi=>?_,g,(KL l).length,W9,?_,rfl,fun i hi=>?_,?_,?_⟩
  ·obtain ⟨x,hx⟩:=K9 i
   rw[hx];rfl
  ·unfold Ky;rw[Mv]
  ·obtain ⟨x,hx⟩:=K9 i
   rw[hx];rfl
  ·unfold Ky;omega
  ·intro i hi
   have:=Qm6 i (by unfold Ky at hi;rw[Mv] at hi;exact hi)
   rw[this]
   unfold Ky;rw[Mv];rfl
end Go.Fg.X
