/- Contracts and laws on the way to the statement. No conditions. -/
import Derived.Test.YtklmjinbhnoppaaGreatSUe
import Derived.Test.YtklmjinbhnoppaaGreatXK1
import Derived.Test.YtklmjinbhnoppaaGreatFgGrow
import Derived.Test.YtklmjinbhnoppaaGreatFgHeap
set_option maxRecDepth 100000
set_option maxHeartbeats 16000000
set_option linter.unusedVariables false
set_option linter.unusedSimpArgs false
set_option linter.unusedSectionVars false
namespace Go.Fg.X
open Go.Proofs Go.Fg
def Qm7 (F:List Ob) (f nf:Nat) (QB:List D) (K:List Int) (g:Int→Bool):Prop:=∀ (h:List Ob) (x:Int),x∈K→JY F h→QQ Tryz.prog f h (Z6 nf QB [uI x]) (fun d=>d=QN (g x))
def qm (g:Int→Bool) (l:List Int):Int:=match l.findIdx? g with
 | some i=>i
 | none=>-1
theorem Qm8 {g:Int→Bool} {l:List Int} {k:Nat} (hk:k<l.length) (h:∀ i,i<k→g (l.getD i 0)=false) (hg:g (l.getD k 0)=true):qm g l=k:=by
 have e:l.findIdx? g=some k:=by
  rw[List.findIdx?_eq_some_iff_getElem]
  refine ⟨hk,by simpa [List.getD_eq_getElem?_getD,hk] using hg,fun i hi=>?_⟩
  have:=h i hi
  simpa [List.getD_eq_getElem?_getD,show i<l.length by omega] using this
 rw[qm,e]
theorem Qm9 {g:Int→Bool} {l:List Int} (h:∀ i,i<l.length→g (l.getD i 0)=false):qm g l=-1:=by
 have e:l.findIdx? g=none:=by
  rw[List.findIdx?_eq_none_iff]
  intro x hx
  obtain ⟨i,hi,rfl⟩:=List.getElem_of_mem hx
  have:=h i hi
  simpa [List.getD_eq_getElem?_getD,hi] using this
 rw[qm,e]
theorem Qna (g:Int→Bool) (l:List Int):decide (0≤qm g l)=l.any g:=by
 unfold qm
 cases h:l.findIdx? g with
 | some i=>
  obtain ⟨h1,h2,_⟩:=List.findIdx?_eq_some_iff_getElem.1 h
  have e:l.any g=true:=List.any_eq_true.2 ⟨_,List.getElem_mem h1,h2⟩
  rw[e];simp
 | none=>
  have:=List.findIdx?_eq_none_iff.1 h
  have e:l.any g=false:=by rw[List.any_eq_false];intro x hx;simp [this x hx]
  rw[e];decide
theorem Qnb {g:Int→Bool} {l:List Int} (h:0≤qm g l):(qm g l).toNat<l.length:=by
 unfold qm at h ⊢
 cases e:l.findIdx? g with
 | some i=>obtain ⟨h1,_⟩:=List.findIdx?_eq_some_iff_getElem.1 e;simpa using h1
 | none=>rw[e] at h;simp at h
theorem Qnc {l:List Int} {i:Nat} (h:i<l.length):l.getD i 0∈l:=by
 rw[List.getD_eq_getElem?_getD,List.getElem?_eq_getElem h];exact List.getElem_mem h
section
variable (h:List Ob) (K:List Int) (hlen:K.length<1048576)
include hlen
theorem Qnd (so:D) (f nf:Nat) (QB:List D) (hf:Qo Tryz.prog f) (JP:J6 so=some (f,nf,QB)) (gk:Int→Bool) (hg:Qm7 (h.map Ob.ro) f nf QB K gk) :
  QQ Tryz.prog 227 h [Dz K,so] (fun d=>d=Qb (qm gk K)):=by
 refine Zh Qe 200 Tryz.func227 rfl Tryz.ntmps227 Tryz.results227 rfl fun base w pl F hF QR hb=>?_
 simp only[go_sem,simprocAttr,Qa]
 refine ZB (fun k s=>(∀ i,i<k→gk (K.getD i 0)=false)∧s=⟨[(0,Dz K),(1,so),(7,Qb K.length),(8,Qb k)],F⟩) K.length (Ql.frame (by simp only[go_sem,simprocAttr])) ⟨fun i hi=>absurd hi (by omega),rfl⟩ ?_
 rintro k s hk ⟨hn,rfl⟩
 refine Qc hb ?_
 simp only[go_sem,simprocAttr,Qa]
 have Zl:=KG (show k<4611686018427387904 by omega)
 first | refine kI hk (fun Qq=>?_) (fun Qq=>?_) | refine kJ hk (fun Qq=>?_) (fun Qq=>?_)
 ·simp only[go_sem,simprocAttr,Qa,Qq]
  refine QL hb hf JP ?_ (hg F (K.getD k 0) (Qnc Qq) (by rw[← hF];exact JY.refl F)) rfl fun d2 hR=>?_
  ·simp only[go_sem,simprocAttr]
   exact kW _
  subst hR
  refine Qc hb ?_
  cases Xp:gk (K.getD k 0)
  ·simp only[go_sem,simprocAttr,Qa]
   refine ⟨Qq,_,Ql.frame (fr':=[(0,Dz K),(1,so),(7,Qb K.length),(8,Qb (k+1:Nat))]) (by simp only[go_sem,simprocAttr,Zl]),fun i hi=>?_,rfl⟩
   by_cases h1:i<k
   ·exact hn i h1
   ·have:i=k:=by omega
    subst this;exact Xp
  ·rw[Qm8 Qq hn Xp]
   simp only[go_sem,simprocAttr,Qa]
   exact ⟨[],(List.append_nil F).symm⟩
 ·have Qq:k=K.length:=by omega
  subst Qq
  simp only[go_sem,simprocAttr,Nat.lt_irrefl]
  rw[Qm9 hn]
  refine Qc hb ?_
  simp only[go_sem,simprocAttr,Qa]
  exact ⟨[],(List.append_nil F).symm⟩
end
theorem Qne (l:List Nc):(Ky l).length≤l.length:=by
 have h1:=Dy (fun i=>(XC l)[i]!) (XC l).size
 have h2:=Ss l
 have h3:=Sr l l.length
 rw[List.take_length] at h3
 unfold Ky
 omega
theorem Qnf {l:List Nc} {x:Int} (hx:x∈Ky l):∃ n:Nat,x=(n:Int)∧0<n∧n≤1048576:=by
 obtain ⟨c,h1,h2,h3⟩:=(Qm3 l x).1 hx
 refine ⟨c.d,h3.symm,?_⟩
 unfold xk Nc.of JR at h2
 simp only[Bool.or_eq_true,beq_iff_eq] at h2
 repeat' split at h2
 all_goals first | omega | (exfalso;revert h2;decide) | skip
def Gx (l:List Nc) (k:Nat):Nat:=vk (fun c=>qh c.a c.d c.b k) l
def j4 (t:Nat) (l:List Nc) (x:Int):Bool:=decide (65536*x.toNat<Gx l x.toNat*t)
theorem Qng {l:List Nc} (hl:l.length<1048576) (hc:∀ c∈l,c.Lt) {k:Nat} (hk:k≤1048576):Gx l k<2 ^ 111:=by
 have h1:=L6 (g:=fun c=>qh c.a c.d c.b k) (M:=2 ^ 60) (fun c h=>by
  show qh c.a c.d c.b k≤_
  unfold qh
  split
  ·decide
  ·rename_i h0
   obtain ⟨b1,b2,b3⟩:=Rz h0
   have e1:c.a*min k c.d≤4294967295*1048576:=Nat.mul_le_mul b1 (by omega)
   have e2:c.b*(k - min k c.d)≤4294967295*1048576:=Nat.mul_le_mul b2 (by omega)
   omega) (l:=l) (s:=0) hc
 have h2:=Nat.mul_le_mul_right (2 ^ 60) (show l.length≤1048576 by omega)
 unfold Gx vk;omega
def Su (t:Nat) (l:List Nc):Bool:=decide (65536<vk (fun c=>c.b) l*t)
def Sv (t:Nat) (l:List Nc):Bool:=(Ky l).any (j4 t l) || Su t l
def Sw (t:Nat) (l:List Nc):D:=if (Ky l).any (j4 t l)=true then .tup [uI ((Ky l).getD (qm (j4 t l) (Ky l)).toNat 0),QN true] else .tup [u64 0,QN (Su t l)]
theorem Qnh {l:List Nc} (hl:l.length<1048576) (hc:∀ c∈l,c.Lt):vk (fun c=>c.b) l<2 ^ 111:=by
 have h1:=L6 (g:=fun c=>c.b) (M:=2 ^ 64) (fun c h=>by have:=h.2.2;omega) (l:=l) (s:=0) hc
 have h2:=Nat.mul_le_mul_right (2 ^ 64) (show l.length≤1048576 by omega)
 unfold vk;omega
theorem Qni (h:List Ob) (t:Nat) (l:List Nc) (hl:l.length<1048576) (hc:∀ c∈l,c.Lt) (ht:t≤65536) (b1 b2:Nat) (h1:(h.map Ob.ro)[b1]? = some ⟨.Ku,0,1,1,fun _=>[Vi l]⟩) (h2:(h.map Ob.ro)[b2]? = some ⟨.Ku,0,1,1,fun _=>[Qb t]⟩) (n:Nat) (hn:n≤1048576) :
  QQ Tryz.prog 228 h [uI n,.ptr b1 0 0 0,.ptr b2 0 0 0] (fun d=>d=QN (j4 t l n)):=by
 have hs:Q7 Tryz.prog 230 [Vi l,u64 n] (Qm (num (Gx l n))):=Qlv l n (by omega) hl hc
 have ha:=pc (Gx l n) t n (Qng hl hc hn) ht (by omega)
 refine Zh Qe 200 Tryz.func228 rfl Tryz.ntmps228 Tryz.results228 rfl fun base w pl F hF QR hb=>?_
 rw[← hF] at h1 h2
 have Qx:=Qd h1
 have Ji:=Qd h2
 simp only[go_sem,simprocAttr,Qa,h1,Qx,h2,Ji]
 refine QA Qe hb 200 mixed [(0,true),(1,true),(3,true),(4,true),(2,false),(5,false),(6,true)] (by kernel_rfl) (by kernel_rfl) ?_
 simp only[go_sem,simprocAttr,Qa,h1,Qx,h2,Ji]
 refine Zo hb QiJ rfl ?_ hs (Qm.flat rfl) rfl fun d h hR=>?_
 ·simp only[go_sem,simprocAttr,Qa,h1,Qx,h2,Ji]
 obtain ⟨rfl,rfl⟩:=hR
 refine QF hb ?_
 simp only[go_sem,simprocAttr,Qa,h1,Qx,h2,Ji]
 refine Zo hb mH rfl ?_ ha (Qm.flat rfl) rfl fun d h hR=>?_
 ·simp only[go_sem,simprocAttr,Qa]
 obtain ⟨rfl,rfl⟩:=hR
 refine QF hb ?_
 simp only[go_sem,simprocAttr,Qa]
 exact ⟨[],(List.append_nil F).symm,rfl⟩
theorem Qnj (t:Nat) (l:List Nc) (hl:l.length<1048576) (hc:∀ c∈l,c.Lt) (hm:zS t l=0):Q7 Tryz.prog 188 [Qb t,Vi l] (Qm (Sw t l)):=by
 have ht:t≤65536:=by unfold zS at hm;split at hm;cases hm;omega
 have JW:=pc (vk (fun c=>c.b) l) t 1 (Qnh hl hc) ht (by decide)
 have e0:(zS t l != 0)=false:=by rw[hm];rfl
 have FV:=Qne l
 refine Zk 0 Qe 200 Tryz.func188 rfl Tryz.ntmps188 Tryz.results188 rfl fun base w hb=>?_
 simp only[go_sem,simprocAttr]
 refine QM hb Lj rfl ?_ (Mu t l hl) (Qm.flat rfl) rfl fun d h hR=>?_
 ·simp only[go_sem,simprocAttr,e0]
 obtain ⟨rfl,rfl⟩:=hR
 refine Qc hb ?_
 simp only[go_sem,simprocAttr,e0]
 refine bc hb [] QiG rfl ?_ (Qm5 l hl) rfl fun d h hR=>?_
 ·simp only[go_sem,simprocAttr]
 obtain ⟨rfl,rfl⟩:=hR
 simp only[go_sem,simprocAttr]
 refine Qc hb ?_
 simp only[go_sem,simprocAttr]
 have LI:=Qnd [⟨.one,0,1,1,fun _=>[Qb t]⟩,⟨.one,0,1,1,fun _=>[Vi l]⟩] (Ky l) (by omega) (.clo 228 0 [.ptr 1 0 0 0,.ptr 0 0 0 0]) 228 0 [.ptr 1 0 0 0,.ptr 0 0 0 0] QiI rfl (j4 t l) (fun h' x hx hF'=>by
  obtain ⟨n,rfl,qT,Jb⟩:=Qnf hx
  obtain ⟨g',rfl⟩:=hF'
  exact Qni _ t l hl hc ht 1 0 rfl rfl n Jb)
 refine QL hb QiH rfl ?_ LI rfl fun d2 hR=>?_
 ·simp only[go_sem,simprocAttr]
  try exact kW _
 subst hR
 have wF:=Qna (j4 t l) (Ky l)
 unfold Sw
 cases hA:(Ky l).any (j4 t l)
 ·rw[hA] at wF
  rw[if_neg (by decide)]
  refine Qc hb ?_
  simp only[go_sem,simprocAttr,wF]
  refine QA Qe hb 200 mixed [(0,true),(2,true),(1,false),(3,false),(4,true),(5,true)] (by kernel_rfl) (by kernel_rfl) ?_
  simp only[go_sem,simprocAttr]
  refine Zo hb QiK rfl ?_ (Qlt l hl hc) (Qm.flat rfl) rfl fun d h hR=>?_
  ·simp only[go_sem,simprocAttr]
  obtain ⟨rfl,rfl⟩:=hR
  refine QF hb ?_
  simp only[go_sem,simprocAttr]
  refine Zo hb mH rfl ?_ JW (Qm.flat rfl) rfl fun d h hR=>?_
  ·simp only[go_sem,simprocAttr]
  obtain ⟨rfl,rfl⟩:=hR
  refine QF hb ?_
  simp only[go_sem,simprocAttr]
  rfl
 ·rw[hA] at wF
  rw[if_pos rfl]
  have h0:0≤qm (j4 t l) (Ky l):=of_decide_eq_true wF
  have h1:=Qnb h0
  obtain ⟨j,hj⟩:∃ j:Nat,qm (j4 t l) (Ky l)=(j:Int):=⟨(qm (j4 t l) (Ky l)).toNat,by omega⟩
  rw[hj] at wF h1 ⊢
  rw[Int.toNat_natCast] at h1
  refine Qc hb ?_
  simp only[go_sem,simprocAttr,wF,hj,h1]
  first | rfl | exact ⟨rfl,rfl⟩ | trace_state
def vw (t:Int) (l:List Nc):Int:=if zS t l≠0 then zS t l else if Sv t.toNat l=true then 22 else 0
theorem Qnl (t:Int) (l:List Nc) (hl:l.length<1048576) (hc:∀ c∈l,c.Lt):Q7 Tryz.prog 129 [Qb t,Vi l] (Qm (Qb (vw t l))):=by
 by_cases hm:zS t l=0
 ·have ht:∃ n:Nat,t=(n:Int):=⟨t.toNat,by unfold zS at hm;split at hm;cases hm;omega⟩
  obtain ⟨n,rfl⟩:=ht
  have e0:(zS n l != 0)=false:=by rw[hm];rfl
  have e:vw n l=if Sv n l=true then 22 else 0:=by rw[vw,if_neg (by simpa using hm)];rfl
  rw[e]
  have hF:=Qnj n l hl hc hm
  unfold Sw at hF
  unfold Sv
  cases hA:(Ky l).any (j4 n l)
  ·rw[hA,if_neg (by decide)] at hF
   rw[Bool.false_or]
   refine Zk 0 Qe 200 Tryz.func129 rfl Tryz.ntmps129 Tryz.results129 rfl fun base w hb=>?_
   simp only[go_sem,simprocAttr]
   refine QM hb Lj rfl ?_ (Mu n l hl) (Qm.flat rfl) rfl fun d h hR=>?_
   ·simp only[go_sem,simprocAttr,e0]
   obtain ⟨rfl,rfl⟩:=hR
   refine Qc hb ?_
   simp only[go_sem,simprocAttr,e0]
   refine QM hb mA rfl ?_ hF (Qm.flat rfl) rfl fun d h hR=>?_
   ·simp only[go_sem,simprocAttr]
   obtain ⟨rfl,rfl⟩:=hR
   refine Qc hb ?_
   simp only[go_sem,simprocAttr]
   cases Su n l
   ·simp only[go_sem,simprocAttr]
   ·simp only[go_sem,simprocAttr]
  ·rw[hA,if_pos rfl] at hF
   rw[Bool.true_or,if_pos rfl]
   refine Zk 0 Qe 200 Tryz.func129 rfl Tryz.ntmps129 Tryz.results129 rfl fun base w hb=>?_
   simp only[go_sem,simprocAttr]
   refine QM hb Lj rfl ?_ (Mu n l hl) (Qm.flat rfl) rfl fun d h hR=>?_
   ·simp only[go_sem,simprocAttr,e0]
   obtain ⟨rfl,rfl⟩:=hR
   refine Qc hb ?_
   simp only[go_sem,simprocAttr,e0]
   refine QM hb mA rfl ?_ hF (Qm.flat rfl) rfl fun d h hR=>?_
   ·simp only[go_sem,simprocAttr]
   obtain ⟨rfl,rfl⟩:=hR
   refine Qc hb ?_
   simp only[go_sem,simprocAttr]
 ·have e0:(zS t l != 0)=true:=by simpa using hm
  have e:vw t l=zS t l:=by rw[vw,if_pos hm]
  rw[e]
  refine Zk 0 Qe 200 Tryz.func129 rfl Tryz.ntmps129 Tryz.results129 rfl fun base w hb=>?_
  simp only[go_sem,simprocAttr]
  refine QM hb Lj rfl ?_ (Mu t l hl) (Qm.flat rfl) rfl fun d h hR=>?_
  ·simp only[go_sem,simprocAttr,e0]
  obtain ⟨rfl,rfl⟩:=hR
  refine Qc hb ?_
  simp only[go_sem,simprocAttr,e0]
end Go.Fg.X
namespace Go.Fg.X
open Go.Proofs Go.Fg
end Go.Fg.X
namespace Go.Fg.X
open Go.Proofs Go.Fg
@[go_sem] def oDg (n:Nat):Ob:=⟨.one,0,4,1,fun _=>[u64 (d0 n),u64 (d1 n),u64 (d2 n),u64 (d3 n)]⟩
end Go.Fg.X
namespace Go.Fg.X
open Go.Proofs Go.Fg
end Go.Fg.X
namespace Go.Fg.X
open Go.Proofs Go.Fg
theorem rF:IntKind.i64.wrap 2=2:=by decide
end Go.Fg.X
namespace Go.Fg.X
open Go.Proofs Go.Fg
end Go.Fg.X
namespace Go.Fg.X
open Go.Proofs Go.Fg
open Go.RowKit (Below)
end Go.Fg.X
namespace Go.Fg.X
open Go.Proofs Go.Fg
end Go.Fg.X
namespace Go.Fg.X
open Go.Proofs Go.Fg
end Go.Fg.X
namespace Go.Fg.X
open Go.Proofs Go.Fg
theorem rG {α:Type} [Inhabited α] (L:List α) (g:α→Bool) (i:Nat) (h:i<L.length):(L.take (i+1)).filter g=if g (L.getD i default)=true then (L.take i).filter g++[L.getD i default] else (L.take i).filter g:=by
 rw[List.take_add_one,List.getElem?_eq_getElem h]
 simp only[Option.toList_some,List.filter_append,List.getD_eq_getElem?_getD,List.getElem?_eq_getElem h,Option.getD_some]
 by_cases hg:g L[i]=true
 ·rw[if_pos hg,List.filter_cons_of_pos hg];rfl
 ·rw[if_neg hg,List.filter_cons_of_neg hg];simp
theorem Qnm {α:Type} (L:List α) (g:α→Bool) (i:Nat):((L.take i).filter g).length≤i:=by
 have:=List.length_filter_le g (L.take i)
 simp at this;omega
end Go.Fg.X
namespace Go.Fg.X
open Go.Proofs Go.Fg
end Go.Fg.X
namespace Go.Fg.X
open Go.Proofs Go.Fg
def YE (g:Int→Bool) (l:List Int):List Int:=l.filter fun x=>!g x
theorem Qnn {g:Int→Bool} {l:List Int}:(Y0 g l=-1∧YE g l=l)∨∃ i,i<l.length∧Y0 g l=(i:Int)∧g (l.getD i 0)=true∧(l.take (i+1)).filter (fun x=>!g x)=l.take i:=by
 unfold Y0
 cases h:l.findIdx? g with
 | none=>
  refine .inl ⟨rfl,List.filter_eq_self.2 fun x hx=>?_⟩
  simp [List.findIdx?_eq_none_iff.1 h x hx]
 | some i=>
  obtain ⟨h1,h2,h3⟩:=List.findIdx?_eq_some_iff_getElem.1 h
  refine .inr ⟨i,h1,rfl,by simpa [List.getD_eq_getElem?_getD,h1] using h2,?_⟩
  rw[rG l _ i h1,if_neg (by simpa [List.getD_eq_getElem?_getD,h1] using h2)]
  refine List.filter_eq_self.2 fun x hx=>?_
  obtain ⟨j,hj,rfl⟩:=List.getElem_of_mem hx
  simp at hj
  simpa using h3 j (by omega)
section
variable (h:List Ob) (l:List Int) (lo gn off:Nat) (row:Nat→List D) (hlen:l.length<1000000) (ho:h[lo]? = some ⟨.arr,gn,1,off+l.length,row⟩) (hr:∀ i,i<l.length→row (off+i)=[Qb (l.getD i 0)])
include hlen ho hr
end
def Jl (c:Cv):Nc:=⟨c.m1.toNat,c.d.toNat,c.m2.toNat⟩
theorem Qno {c:Cv} (h:c.Nn):((Jl c).a:Int)=c.m1:=Int.toNat_of_nonneg h.1
theorem Qnp {c:Cv} (h:c.Nn):((Jl c).d:Int)=c.d:=Int.toNat_of_nonneg h.2.1
theorem Qnq {c:Cv} (h:c.Nn):((Jl c).b:Int)=c.m2:=Int.toNat_of_nonneg h.2.2
theorem Qnr {c:Cv} (h:c.Nn):(Jl c).cells=c.cells:=by simp only[Nc.cells,Cv.cells,u64,Qno h,Qnp h,Qnq h]
def Mw (x:Qi):Bool:=decide (1<QH x.rt)
def VR (L:List Qi):List Nc:=(L.filter Mw).map fun x=>Jl x.rt
theorem Qns (L:List Qi):(VR L).length≤L.length:=by
 have:=List.length_filter_le Mw L
 unfold VR;rw[List.length_map];exact this
section
variable (h:List Ob) (t m c:Nat) {es:List QK} {L:List Qi} (T:JK es L) (hlen:L.length<1000000)
 (ht:(h.map Ob.ro)[t]? = some ⟨.Ku,0,1,1,fun _=>[.mref m 0]⟩) (hm:(h.map Ob.ro)[m]? = some (QE .i64 c es).ro)
include T ht hm hlen
theorem Qnt (hn:∀ c∈L,c.Nn):Kp Tryz.prog 130 h [.ptr t 0 0 0] (fun d g=>(d=.nil∧VR L=[])∨∃ lo gn row,d=.ref lo gn 0 (VR L).length∧h.length≤lo∧(h++g)[lo]? = some ⟨.arr,gn,3,(VR L).length,row⟩∧X6 Nc.cells (VR L) 0 row):=by
 refine V1 Qe 200 Tryz.func130 rfl Tryz.ntmps130 Tryz.results130 rfl fun base w pl F hF QR hb=>?_
 rw[← hF] at ht hm
 have QV:=Qd ht
 have QP:=Qd hm
 simp only[go_sem,simprocAttr,Qa,ht,QV,hm,QP]
 have hT:FD (F.map Ob.ro) 111 0 [] Mw:=fun h' x qx=>by
  refine Zh Qe 200 Tryz.func111 rfl Tryz.ntmps111 Tryz.results111 rfl fun base w pl F hF QR hb=>?_
  simp only[go_sem,simprocAttr,Qa]
  refine QM hb Lg rfl ?_ (Lr x.rt) (Qm.flat rfl) rfl fun d h hR=>?_
  ·simp only[go_sem,simprocAttr,Qa]
  obtain ⟨rfl,rfl⟩:=hR
  refine Qc hb ?_
  simp only[go_sem,simprocAttr,Qa]
  exact ⟨_,rfl,rfl⟩
 obtain ⟨K,hK⟩:∃ K,K=L.filter Mw:=⟨_,rfl⟩
 have hKl:K.length≤L.length:=by rw[hK];exact List.length_filter_le _ _
 have rH:VR L=K.map fun x=>Jl x.rt:=by rw[hK];rfl
 refine yh hb Lc rfl ?_ (Lw _ t m c T hlen (Zv ht) (AQ hm) (.raw (.func (.func 111) ⟨[]⟩ ⟨[]⟩)) 111 0 [] kQ rfl _ hT) rfl fun d g hs=>?_
 ·simp only[go_sem,simprocAttr]
 rw[← hK] at hs
 rcases hs with ⟨rfl,h3⟩ | ⟨lo,gn,off,row,rfl,Zp,ho,hr⟩
 ·have hR0:VR L=[]:=by
   rw[rH]
   have:K=[]:=by simpa using h3
   rw[this];rfl
  refine Qc hb ?_
  simp only[go_sem,simprocAttr,Qa]
  refine ZB (fun i s=>s=⟨[(3,.nil),(8,Qb 0),(9,Qb 0)],F++g⟩) 0 (Ql.frame (by simp only[go_sem,simprocAttr])) rfl ?_
  rintro i s hi rfl
  refine Qc hb ?_
  simp only[go_sem,simprocAttr,Qa]
  refine Qc hb ?_
  simp only[go_sem,simprocAttr,Qa]
  exact ⟨_,rfl,.inl hR0⟩
 ·obtain ⟨G,hG⟩:∃ G,G=F++g:=⟨_,rfl⟩
  have Sx:JY F G:=⟨g,hG⟩
  have Sy:=Sx.get ht
  have Sz:=Sx.get hm
  rw[← hG] at ho ⊢
  have rI:=Qd Sy
  have rJ:=Qd Sz
  have Qf:=Qd ho
  rw[List.length_map] at ho hr
  have DB:=Sx.len
  refine Qc hb ?_
  simp only[go_sem,simprocAttr,Qa]
  refine ZB (fun i s=>∃ gm Gy rest,X6 Nc.cells ((K.take i).map fun x=>Jl x.rt) 0 Gy∧s=⟨[(0,.ptr t 0 0 0),(3,.ref G.length gm 0 ((K.take i).map fun x=>Jl x.rt).length),(7,.ref lo gn off K.length),(8,Qb K.length),(9,Qb i)],G++(⟨.arr,gm,3,((K.take i).map fun x=>Jl x.rt).length,Gy⟩::rest)⟩) K.length
   (s0:=⟨[(0,.ptr t 0 0 0),(3,.ref G.length 0 0 0),(7,.ref lo gn off K.length),(8,Qb K.length),(9,Qb 0)],G++[⟨.arr,0,3,0,fun _=>[]⟩]⟩)
   (Ql.trans (Ql.xD 3 3 (fun i=>[]) rfl) (Ql.frame (by simp only[go_sem,simprocAttr,List.length_map]))) ⟨0,fun _=>[],[],.nil,rfl⟩ ?_
  rintro i s hi ⟨gm,Gy,rest,Wd,rfl⟩
  have Zl:=KG (show i<4611686018427387904 by omega)
  refine Qc hb ?_
  simp only[go_sem,simprocAttr,Qa,Sy,Sz,rI,rJ,ho,Qf]
  first | refine kI hi (fun Qq=>?_) (fun Qq=>?_) | refine kJ hi (fun Qq=>?_) (fun Qq=>?_)
  ·obtain ⟨x,hx⟩:∃ x,x=K.getD i default:=⟨_,rfl⟩
   have rK:x∈K:=by rw[hx,List.getD_eq_getElem?_getD,List.getElem?_eq_getElem Qq];exact List.getElem_mem Qq
   have rL:x∈L:=by rw[hK] at rK;exact (List.mem_filter.1 rK).1
   have Ks:Qr L x.iD=some x:=(KQ T.sorted).2 ⟨rL,rfl⟩
   have YF:=T.look x.iD
   rw[Ks,Option.map_some] at YF
   have rM:=hr i (by simpa using Qq)
   have Qnv:(K.map (·.iD)).getD i 0=x.iD:=by
    rw[hx,List.getD_eq_getElem?_getD,List.getD_eq_getElem?_getD,List.getElem?_map,List.getElem?_eq_getElem Qq];rfl
   rw[Qnv] at rM
   have ZH:(K.take (i+1)).map (fun x=>Jl x.rt)=(K.take i).map (fun x=>Jl x.rt)++[Jl x.rt]:=by
    rw[List.take_add_one,List.getElem?_eq_getElem Qq,hx,List.getD_eq_getElem?_getD,List.getElem?_eq_getElem Qq,List.map_append]
    rfl
   obtain ⟨M,hM⟩:∃ M,M=(K.take i).map fun x=>Jl x.rt:=⟨_,rfl⟩
   have hMl:M.length≤i:=by rw[hM,List.length_map,List.length_take];omega
   have Bs:M.length≤4294967295:=by omega
   rw[← hM] at ZH Wd ⊢
   have Bt:=Wd.app (Jl x.rt) (r2:=fun _=>(Jl x.rt).cells) rfl
   rw[Qnr (hn x rL).1] at Bt
   simp only[go_sem,simprocAttr,Qa,Qq,Sy,Sz,rI,rJ,ho,Qf,rM,YF,Bs]
   refine ⟨by omega,_,Ql.frame (fr':=[(0,.ptr t 0 0 0),(3,.ref G.length (gm+1) 0 (M.length+1)),(7,.ref lo gn off K.length),(8,Qb K.length),(9,Qb (i+1:Nat))]) (by simp only[go_sem,simprocAttr,Zl]),gm+1,_,rest++[⟨.arr,0,3,1,fun _=>x.rt.cells⟩],by rw[ZH];exact Bt,?_⟩
   rw[ZH,List.length_append]
   rfl
  ·have h1:i=K.length:=by omega
   subst h1
   rw[List.take_length,← rH] at Wd ⊢
   refine Qc hb ?_
   simp only[go_sem,simprocAttr,Qa]
   refine ⟨g++(⟨.arr,gm,3,(VR L).length,Gy⟩::rest),by rw[hG,List.append_assoc],.inr ⟨G.length,gm,Gy,rfl,by omega,?_,Wd⟩⟩
   have hle:G.length=(h++g).length:=by rw[hG,List.length_append,List.length_append,QR]
   rw[← List.append_assoc,hle,List.getElem?_append_right (Nat.le_refl _),Nat.sub_self]
   rfl
theorem Qnw (hn:∀ c∈L,c.Nn):QQ Tryz.prog 130 h [.ptr t 0 0 0] (fun d=>d=Vi (VR L)):=by
 refine P3 (Vi (VR L)) (fun k=>rfl) ?_ (Qnt h t m c T hlen ht hm hn)
 rintro d g (⟨rfl,h3⟩ | ⟨lo,gn,row,rfl,Zp,ho,hr⟩)
 ·left
  rw[h3]
  simp only[go_sem,simprocAttr]
 ·right
  refine ⟨lo,gn,3,_,row,Zp,ho,fun i hi=>?_,?_⟩
  ·obtain ⟨a,ha⟩:=hr.all i (by simpa using hi)
   rw[ha];rfl
  ·have e1:D.fz lo gn (VR L).length 3 row (.ref lo gn 0 (VR L).length)=.imm 3 (VR L).length (rowFrom 0 row):=by simp [D.fz,E6]
   rw[e1]
   simp only[Vi]
   rw[Fo]
   refine ⟨rfl,rfl,fun i hi=>?_⟩
   have h1:=hr.at_ i hi
   rw[Nat.zero_add] at h1
   rw[Fk,Nat.zero_add,h1,Nc.kS]
   exact yd (yf _) _
end
@[go_sem] def jI (n:Int):D:=.raw (.int .i64 n)
def Bu (d:Array Int):Nat→List D:=fun i=>[jI d[i]!]
@[go_sem] theorem Qnx (d:Array Int) (i:Nat):Bu d i=[jI d[i]!]:=rfl
@[go_sem] def j5 (g:Nat) (d:Array Int):Ob:=⟨.arr,g,1,d.size,Bu d⟩
theorem Qny {h:List Ob} {lo g:Nat} {d:Array Int} (hl:lo<h.length):(h.set lo (j5 g d))[lo]? = some (j5 g d):=Qw hl
theorem Qnz (g:Nat) (d:Array Int) (i n:Nat) (x:Int) (hn:d.size=n) (hi:i<n) :
  (⟨.arr,g,1,n,fun k=>bif k == i then [.raw (.int .i64 x)] else [.raw (.int .i64 d[k]!)]⟩:Ob)=j5 g (d.setIfInBounds i x):=by
 subst hn
 unfold j5
 congr 1
 ·simp
 ·funext k
  unfold Bu jI
  by_cases k1:k=i
  ·subst k1
   simp [hi]
  ·have e1:(k == i)=false:=beq_eq_false_iff_ne.mpr k1
   rw[e1]
   by_cases k3:k<d.size
   ·simp [k1,k3,Ne.symm k1,Array.getElem_setIfInBounds]
   ·simp [k1,k3]
theorem QnA {h:List Ob} {lo g:Nat} {d:Array Int} (ho:h[lo]? = some (j5 g d)) (hz:d.size<1000000000) :
  QG Tryz.prog 133 h [.ref lo g 0 d.size] (fun dd h'=>dd=.ref lo g 0 (cN (fun i=>d[i]!) d.size).length∧∃ row,h'=h.set lo ⟨.arr,g,1,d.size,row⟩∧(∀ i,i<(cN (fun i=>d[i]!) d.size).length→row i=[jI ((cN (fun i=>d[i]!) d.size).getD i 0)])∧∀ i,∃ x,row i=[jI x]):=by
 by_cases c2:d.size<2
 ·have e2:decide ((d.size:Int)<2)=true:=decide_eq_true (by omega)
  have hlen:(cN (fun i=>d[i]!) d.size).length=d.size:=by
   have:d.size=0∨d.size=1:=by omega
   rcases this with h0 | h0 <;> rw[h0] <;> rfl
  rw[hlen]
  refine QW Qe 200 Tryz.func133 rfl Tryz.ntmps133 Tryz.results133 rfl fun base w pl hb=>?_
  have Qf:=Qd ho
  simp only[go_sem,simprocAttr,Qa,ho,Qf,e2]
  exact ⟨Bu d,(YC ho).symm,fun i hi=>by rw[Bo _ _ hlen i hi];rfl,fun i=>⟨_,rfl⟩⟩
 ·have e2:decide ((d.size:Int)<2)=false:=decide_eq_false (by omega)
  refine QW Qe 200 Tryz.func133 rfl Tryz.ntmps133 Tryz.results133 rfl fun base w pl hb=>?_
  have Qf:=Qd ho
  simp only[go_sem,simprocAttr,Qa,ho,Qf,e2]
  refine ZB (fun k st=>k+1≤d.size∧(cN (fun i=>d[i]!) (k+1)).length=k+1∧st=⟨[(0,.ref lo g 0 d.size),(3,Qb (k+1:Nat))],h⟩) d.size (s0:=⟨[(0,.ref lo g 0 d.size),(3,Qb (0+1:Nat))],h⟩) (Ql.frame (by simp only[go_sem,simprocAttr])) ⟨by omega,rfl,rfl⟩ ?_
  rintro k _ hk ⟨Qq,ZY,rfl⟩
  by_cases ck:k+1<d.size
  ·have ek:decide (k+1<d.size)=true:=decide_eq_true ck
   have v1:IntKind.i64.wrap (((k+1:Nat):Int) - 1)=((k:Nat):Int):=by rw[wrap64 (by omega) (by omega)];omega
   have v2:IntKind.i64.wrap (((k+1:Nat):Int)+1)=((k+1+1:Nat):Int):=by rw[wrap64 (by omega) (by omega)];omega
   have p0:k<d.size:=by omega
   refine Qc hb ?_
   simp only[go_sem,simprocAttr,Qa,ho,Qf,ek]
   refine QA Qe hb 200 mixed [(0,true),(1,true),(2,true),(3,true),(4,true),(5,true),(6,true),(7,true),(8,true),(9,true)] (by kernel_rfl) (by kernel_rfl) ?_
   simp only[go_sem,simprocAttr,Qa,ho,Qf,v1,ck,p0]
   by_cases WX:d[k+1]! = d[k]!
   ·have Bp:(d[k+1]! == d[k]!)=true:=beq_iff_eq.mpr WX
    have ZO:(cN (fun i=>d[i]!) (k+1+1)).length=k+1:=by
     rw[cN,if_pos ⟨by omega,by simpa using WX⟩,ZY]
    have q0:k+1≤d.size:=by omega
    generalize hN:d.size - (k+1)=N
    have v3:((d.size:Int) - ((k+1:Nat):Int)).toNat=N:=by omega
    simp only[go_sem,simprocAttr,Bp,q0,hN,Qa,ho,Qf,v3]
    refine ZB (fun m st=>∃ (d1:Array Int),d1.size=d.size∧m+1≤N∧(cN (fun i=>d[i]!) (k+1+(m+1))).length≤k+1+m∧(∀ i,i<(cN (fun i=>d[i]!) (k+1+(m+1))).length→d1[i]! = (cN (fun i=>d[i]!) (k+1+(m+1))).getD i 0)∧(∀ j,(cN (fun i=>d[i]!) (k+1+(m+1))).length≤j→d1[j]! = d[j]!)∧st=⟨[(0,.ref lo g 0 d.size),(3,Qb (cN (fun i=>d[i]!) (k+1+(m+1))).length),(4,.ref lo g (k+1) N),(5,Qb (m+1:Nat))],h.set lo (j5 g d1)⟩) N (s0:=⟨[(0,.ref lo g 0 d.size),(3,Qb (cN (fun i=>d[i]!) (k+1+(0+1))).length),(4,.ref lo g (k+1) N),(5,Qb (0+1:Nat))],h.set lo (j5 g d)⟩) ?_ ⟨d,rfl,by omega,Nat.le_of_eq ZO,fun i hi=>?_,fun j hj=>rfl,rfl⟩ ?_
    ·rw[YC ho,ZO]
     exact Ql.frame (by simp only[go_sem,simprocAttr])
    ·rw[cN,if_pos ⟨by omega,by simpa using WX⟩] at hi ⊢
     exact (Bo _ _ ZY i (by omega)).symm
    rintro m _ hm ⟨d1,Zf,hmN,FV,Bq,xh,rfl⟩
    have Ze:=Qny (g:=g) (d:=d1) Qf
    have xi:cN (fun i=>d[i]!) (k+1+(m+1+1))=if d[k+1+(m+1)]! = d[k+1+m]! then cN (fun i=>d[i]!) (k+1+(m+1)) else cN (fun i=>d[i]!) (k+1+(m+1))++[d[k+1+(m+1)]!]:=by
     rw[show k+1+(m+1+1)=(k+1+(m+1))+1 by omega,cN]
     simp
    generalize hC:cN (fun i=>d[i]!) (k+1+(m+1))=C at *
    generalize hH:h.set lo (j5 g d1)=H at Ze
    have Jk:=Qd Ze
    by_cases cm:m+1<N
    ·have em:decide (m+1<N)=true:=decide_eq_true cm
     have r1:=xh (k+1+(m+1)) (by omega)
     have r2:=xh (k+1+m) (by omega)
     have u1:k+1+(m+1)<d.size:=by omega
     have u2:k+1+m<d.size:=by omega
     have u3:m<N:=by omega
     have w1:IntKind.i64.wrap (((m+1:Nat):Int) - 1)=(m:Int):=by rw[wrap64 (by omega) (by omega)];omega
     have w2:IntKind.i64.wrap (((m+1:Nat):Int)+1)=((m+1+1:Nat):Int):=by rw[wrap64 (by omega) (by omega)];omega
     have w3:IntKind.i64.wrap ((C.length:Int)+1)=((C.length+1:Nat):Int):=by rw[wrap64 (by omega) (by omega)];omega
     refine Qc hb ?_
     simp only[go_sem,simprocAttr,Qa,Ze,Jk,em]
     refine QA Qe hb 200 mixed [(0,true),(1,true),(2,true),(3,true),(4,true),(5,true),(6,true),(7,true),(8,true),(9,true)] (by kernel_rfl) (by kernel_rfl) ?_
     simp only[go_sem,simprocAttr,Qa,Ze,Jk,Zf,w1,cm,u1,u2,u3,r1,r2]
     by_cases cq:d[k+1+(m+1)]! = d[k+1+m]!
     ·have nq:(d[k+1+(m+1)]! != d[k+1+m]!)=false:=by rw[cq];exact bne_self_eq_false _
      rw[if_pos cq] at xi
      simp only[go_sem,simprocAttr,nq,w2]
      rw[xi]
      refine ⟨by omega,_,?_,d1,Zf,by omega,by omega,Bq,xh,rfl⟩
      rw[← hH]
      exact Ql.frame (by simp only[go_sem,simprocAttr])
     ·have nq:(d[k+1+(m+1)]! != d[k+1+m]!)=true:=bne_iff_ne.mpr cq
      have u4:C.length<d.size:=by omega
      rw[if_neg cq] at xi
      simp only[go_sem,simprocAttr,nq,w2,w3,Qa,Ze,Jk,Zf,u1,cm,u4,r1]
      rw[Qnz g d1 _ _ _ Zf u4,xi]
      refine ⟨by omega,_,?_,d1.setIfInBounds C.length d[k+1+(m+1)]!,by simp;exact Zf,by omega,by simp;omega,fun i hi=>?_,fun j hj=>?_,rfl⟩
      ·rw[← hH,List.set_set,List.length_append,List.length_singleton]
       exact Ql.frame (by simp only[go_sem,simprocAttr])
      ·simp only[List.length_append,List.length_singleton] at hi
       by_cases e:i=C.length
       ·subst e
        rw[List.getD_eq_getElem?_getD,List.getElem?_append_right (Nat.le_refl _),Nat.sub_self]
        simp [Zf,u4]
       ·rw[List.getD_eq_getElem?_getD,List.getElem?_append_left (by omega),← List.getD_eq_getElem?_getD,← Bq i (by omega)]
        simp [Ne.symm e,Array.getElem!_eq_getD,Array.getD_eq_getD_getElem?,Array.getElem?_setIfInBounds]
      ·simp only[List.length_append,List.length_singleton] at hj
       rw[← xh j (by omega)]
       simp [show C.length≠j by omega,Array.getElem!_eq_getD,Array.getD_eq_getD_getElem?,Array.getElem?_setIfInBounds]
    ·have em:decide (m+1<N)=false:=decide_eq_false cm
     have Sq:k+1+(m+1)=d.size:=by omega
     rw[Sq] at hC
     rw[hC]
     have g1:C.length≤d.size:=by omega
     have g2:((d.size:Int) - (C.length:Int)).toNat=d.size - C.length:=by omega
     refine Qc hb ?_
     simp only[go_sem,simprocAttr,Qa,Ze,Jk,em]
     refine Qc hb ?_
     simp only[go_sem,simprocAttr,Qa,Ze,Jk,Zf,g1,g2]
     refine PK kP hb rfl Ze rfl rfl rfl rfl (by dsimp only[j5];omega) rfl rfl rfl rfl ?_
     refine Qc hb ?_
     simp only[go_sem,simprocAttr,Qa,Qw Jk,Jk,Zf,g1]
     refine ⟨by simp,We C.length (d.size - C.length) [D.raw (.int .i64 0)] (Bu d1),?_,fun i hi=>?_,fun i=>?_⟩
     ·rw[← hH,List.set_set]
     ·rw[PI hi]
      show [jI d1[i]!]=_
      rw[Bq i hi]
      rfl
     ·unfold We
      cases Nat.ble C.length i && Nat.blt i (C.length+(d.size - C.length))
      ·exact ⟨d1[i]!,rfl⟩
      ·exact ⟨0,rfl⟩
   ·have Bp:(d[k+1]! == d[k]!)=false:=beq_eq_false_iff_ne.mpr WX
    simp only[go_sem,simprocAttr,Bp,v2]
    refine ⟨by omega,_,?_,by omega,?_,rfl⟩
    ·exact Ql.frame (by simp only[go_sem,simprocAttr])
    ·rw[cN,if_neg (by simpa using WX)]
     simp [ZY]
  ·have ek:decide (k+1<d.size)=false:=decide_eq_false ck
   obtain Z9:k+1=d.size:=by omega
   rw[Z9] at ZY
   refine Qc hb ?_
   simp only[go_sem,simprocAttr,Qa,ho,Qf,ek]
   refine Qc hb ?_
   simp only[go_sem,simprocAttr]
   rw[ZY]
   exact ⟨rfl,Bu d,(YC ho).symm,fun i hi=>by rw[Bo _ _ ZY i hi];rfl,fun i=>⟨_,rfl⟩⟩
theorem QnB (n:Nat) (h0:0<n) (hn:n≤1048576):Q7 Tryz.prog 189 [.nil,Qb n] (fun d h=>∃ row,d=.ref 0 0 0 0∧h=[⟨.arr,0,1,0,row⟩]):=by
 have FR:¬ ((n:Int)<0):=by omega
 have jn:((n:Int) > 0):=by omega
 have w1:IntKind.i64.wrap (n:Int)=n:=by rw[IntKind.wrap_i64];omega
 refine QG.cut (R:=fun d h=>d=.ref 0 0 0 0∧h=[⟨.arr,0,1,n,fun _=>[Qb 0]⟩]) ?_ (by rintro d h ⟨rfl,rfl⟩;exact ⟨0,_,0,rfl,rfl,Nat.zero_le _,_,rfl,rfl⟩)
 show Q7 _ _ _ _
 refine Zk 1 Qe 200 Tryz.func189 rfl Tryz.ntmps189 Tryz.results189 rfl fun base w hb=>?_
 simp only[go_sem,simprocAttr]
 simp only[decide_eq_false FR,go_sem,simprocAttr]
 refine PN kP rfl rfl rfl ?_
 refine Qc hb ?_
 simp only[go_sem,simprocAttr,vv,Int.sub_zero,w1,decide_eq_true jn,h0]
 refine PN kP rfl rfl rfl ?_
 refine Qc hb ?_
 simp only[go_sem,simprocAttr]
 refine Qj9 kP hb rfl rfl rfl rfl rfl rfl (by decide) h0 (by omega) (by decide) rfl ?_
 refine Qc hb ?_
 simp only[go_sem,simprocAttr]
theorem QnC:Q7 Tryz.prog 189 [.nil,Qb 0] (Qm .nil):=by
 refine Zk 0 Qe 200 Tryz.func189 rfl Tryz.ntmps189 Tryz.results189 rfl fun base w hb=>?_
 simp only[go_sem,simprocAttr]
 refine PN kP rfl rfl rfl ?_
 refine Qc hb ?_
 simp only[go_sem,simprocAttr,vv,Int.sub_zero]
theorem QnD (h:List Ob) (l2:Nat) (W9:Nat→List D) (a b:List Int) (hl:a.length+b.length<1000000) (h2:(h.map Ob.ro)[l2]? = some ⟨.xC,0,1,2,W9⟩) (e0:W9 0=[ints a]) (e1:W9 1=[ints b]) :
  Kp Tryz.prog 131 h [.ref l2 0 0 2] (fun d g=>Z3 h.length (h++g) d (a++b)):=by
 have w1:IntKind.i64.wrap (a.length:Int)=(a.length:Int):=by rw[IntKind.wrap_i64];omega
 have w2:IntKind.i64.wrap ((a.length:Int)+(b.length:Int))=((a.length+b.length:Nat):Int):=by rw[IntKind.wrap_i64];omega
 have n1:decide ((a.length:Int)<0)=false:=decide_eq_false (by omega)
 have n2:decide (((a.length+b.length:Nat):Int)<0)=false:=decide_eq_false (by omega)
 refine V1 Qe 200 Tryz.func131 rfl Tryz.ntmps131 Tryz.results131 rfl fun base w pl F hF QR hb=>?_
 rw[← hF] at h2
 have Ji:=Qd h2
 simp only[go_sem,simprocAttr,Qa,h2,Ji]
 obtain ⟨sz,VP,Zf,Jf⟩:∃ sz:Nat→Int,sz 0=0∧sz 1=a.length∧sz 2=(a.length+b.length:Nat):=⟨fun i=>if i=0 then 0 else if i=1 then a.length else (a.length+b.length:Nat),rfl,rfl,rfl⟩
 refine ZB (fun i s=>s=⟨[(0,.ref l2 0 0 2),(3,.raw (.int .i64 (sz i))),(9,.ref l2 0 0 2),(10,Qb 2),(11,Qb i)],F⟩) 2 (Ql.frame (by simp only[go_sem,simprocAttr,VP])) rfl ?_
 rintro i s hi rfl
 have SA:i=0∨i=1∨i=2:=by omega
 rcases SA with rfl | rfl | rfl
 ·refine Qc hb ?_
  simp only[go_sem,simprocAttr,Qa,h2,Ji,e0,e1,vv,xj,VP,Int.zero_add,w1,n1]
  exact ⟨_,Ql.frame (fr':=[(0,.ref l2 0 0 2),(3,.raw (.int .i64 (sz 1))),(9,.ref l2 0 0 2),(10,Qb 2),(11,.raw (.int .i64 1))]) (by simp only[go_sem,simprocAttr,Zf]),rfl⟩
 ·refine Qc hb ?_
  simp only[go_sem,simprocAttr,Qa,h2,Ji,e0,e1,vv,xj,Zf,w2,n2]
  exact ⟨_,Ql.frame (fr':=[(0,.ref l2 0 0 2),(3,.raw (.int .i64 (sz 2))),(9,.ref l2 0 0 2),(10,Qb 2),(11,.raw (.int .i64 2))]) (by simp only[go_sem,simprocAttr,Jf,rF]),rfl⟩
 ·refine Qc hb ?_
  simp only[go_sem,simprocAttr,Qa,h2,Ji,e0,e1,vv,xj,Jf]
  refine Qc hb ?_
  simp only[go_sem,simprocAttr,Qa,h2,Ji,e0,e1,vv,xj,Jf]
  by_cases hz:a.length+b.length=0
  case' pos=>
   refine QM hb mB rfl ?_ QnC (Qm.flat rfl) rfl fun d h hR=>?_
   ·simp only[go_sem,simprocAttr,Qa,h2,Ji,hz]
   obtain ⟨rfl,rfl⟩:=hR
   refine Qc hb ?_
   simp only[go_sem,simprocAttr,Qa,h2,Ji,hz]
   refine x5 (Ql.xD 6 1 (fun _=>[]) (by simp only[go_sem,simprocAttr])) ?_
   simp only[go_sem,simprocAttr,Qa]
   generalize (fun _:Nat=>([]:List D))=rN
  case' neg=>
   refine QM hb mB rfl ?_ (QnB (a.length+b.length) (by omega) (by omega)) (fun d h ⟨row,h1,h2⟩=>⟨by rw[h1];rfl,fun o ho=>by rw[h2] at ho;simp at ho;subst ho;exact fun i hi=>absurd hi (Nat.not_lt_zero i)⟩) rfl fun d h' hR=>?_
   ·simp only[go_sem,simprocAttr,Qa]
   obtain ⟨row,rfl,rfl⟩:=hR
   refine Qc hb ?_
   simp only[go_sem,simprocAttr,Qa,h2,Ji]
   generalize (fun i=>qz F.length (row i))=rN
  all_goals
   refine ZB (fun i s=>∃ gn m row,(i=0→m=0)∧(i=1→m=a.length∧∀ k,k<a.length→row k=[Qb (a.getD k 0)])∧(i=2→m=a.length+b.length∧∀ k,k<a.length+b.length→row k=[Qb ((a++b).getD k 0)])∧s=⟨[(6,.ref F.length gn 0 m),(25,.ref l2 0 0 2),(26,Qb 2),(27,Qb i)],F++[⟨.arr,gn,1,m,row⟩]⟩) 2
    (s0:=⟨[(6,.ref F.length 0 0 0),(25,.ref l2 0 0 2),(26,Qb 2),(27,Qb 0)],F++[⟨.arr,0,1,0,rN⟩]⟩) (Ql.frame (by simp only[go_sem,simprocAttr])) ⟨0,0,_,fun _=>rfl,fun h=>absurd h (by decide),fun h=>absurd h (by decide),rfl⟩ ?_
   rintro i s hi ⟨gn,m,row,EF,SB,Kv,rfl⟩
   have SA:i=0∨i=1∨i=2:=by omega
   have Bs:a.length≤4294967295:=by omega
   have vz:a.length+b.length≤4294967295:=by omega
   rcases SA with rfl | rfl | rfl
   ·obtain rfl:m=0:=EF rfl
    refine Qc hb ?_
    simp only[go_sem,simprocAttr,Qa,h2,Ji,e0,e1,vv,xj,Bs]
    refine ⟨by omega,_,Ql.frame (fr':=[(6,.ref F.length (gn+1) 0 a.length),(25,.ref l2 0 0 2),(26,Qb 2),(27,.raw (.int .i64 1))]) (by simp only[go_sem,simprocAttr,xj]),_,_,_,⟨rfl,fun k hk=>?_⟩,rfl⟩
    rw[xM (Nat.zero_le k)];rfl
   ·obtain ⟨rfl,hr⟩:=SB rfl
    refine Qc hb ?_
    simp only[go_sem,simprocAttr,Qa,h2,Ji,e0,e1,vv,xj,Bs,vz]
    refine ⟨by omega,_,Ql.frame (fr':=[(6,.ref F.length (gn+1) 0 (a.length+b.length)),(25,.ref l2 0 0 2),(26,Qb 2),(27,.raw (.int .i64 2))]) (by simp only[go_sem,simprocAttr,rF]),_,_,_,⟨rfl,fun k hk=>?_⟩,rfl⟩
    by_cases h1:k<a.length
    ·rw[Ae h1,Nat.zero_add,hr k h1,List.getD_eq_getElem?_getD,List.getD_eq_getElem?_getD,List.getElem?_append_left h1];rfl
    ·rw[xM (by omega),List.getD_eq_getElem?_getD,List.getElem?_append_right (by omega),← List.getD_eq_getElem?_getD];rfl
   ·obtain ⟨rfl,ji⟩:=Kv rfl
    refine Qc hb ?_
    simp only[go_sem,simprocAttr,Qa,h2,Ji,e0,e1,vv,xj]
    refine Qc hb ?_
    simp only[go_sem,simprocAttr,Qa,h2,Ji,e0,e1,vv,xj]
    refine ⟨_,rfl,.inr ⟨h.length,gn,0,row,by rw[QR,List.length_append],⟨Nat.le_refl _,rfl⟩,?_,fun i hi=>by rw[Nat.zero_add];exact ji i (by simpa using hi)⟩⟩
    rw[Kq rfl,List.length_append,Nat.zero_add];rfl
theorem QnE (h:List Ob) (l2:Nat) (W9:Nat→List D) (a b:List Int) (hl:a.length+b.length<1000000) (h2:(h.map Ob.ro)[l2]? = some ⟨.xC,0,1,2,W9⟩) (e0:W9 0=[ints a]) (e1:W9 1=[ints b]) :
  QQ Tryz.prog 131 h [.ref l2 0 0 2] (fun d=>d=ints (a++b)):=Z3.closed (QnD h l2 W9 a b hl h2 e0 e1)
deriving instance DecidableEq for Cv
deriving instance DecidableEq for Qi
def Kt (A B:List Qi) (id:Int):Bool:=decide (Qr A id≠Qr B id)
def qV (A B:List Qi):List Int:=(A.map (·.iD)++B.map (·.iD)).filter (Kt A B)
def Xa (L:List Int):List Int:=cN (fun i=>L.getD i 0) L.length
def Jm (A B:List Qi):List Int:=Xa (sorted (qV A B))
theorem QnF {L:List Int} {x:Int}:x∈Xa L↔x∈L:=by
 unfold Xa
 rw[Sp]
 constructor
 ·rintro ⟨i,hi,rfl⟩
  rw[List.getD_eq_getElem?_getD,List.getElem?_eq_getElem hi]
  exact List.getElem_mem hi
 ·intro h
  obtain ⟨i,hi,rfl⟩:=List.getElem_of_mem h
  exact ⟨i,hi,by rw[List.getD_eq_getElem?_getD,List.getElem?_eq_getElem hi];rfl⟩
theorem QnG {L:List Int} {x:Int}:x∈sorted L↔x∈L:=(List.mergeSort_perm _ _).mem_iff
theorem Bv {A B:List Qi} {id:Int}:id∈Jm A B↔Qr A id≠Qr B id:=by
 unfold Jm
 rw[QnF,QnG]
 unfold qV
 rw[List.mem_filter]
 unfold Kt
 rw[decide_eq_true_eq]
 constructor
 ·exact fun h=>h.2
 ·intro h
  refine ⟨?_,h⟩
  rw[List.mem_append]
  cases ha:Qr A id with
  | some c=>
   refine .inl (List.mem_map.2 ⟨c,List.mem_of_find?_eq_some ha,?_⟩)
   have:=List.find?_some ha;simpa using this
  | none=>
   cases hb:Qr B id with
   | some c=>
    refine .inr (List.mem_map.2 ⟨c,List.mem_of_find?_eq_some hb,?_⟩)
    have:=List.find?_some hb;simpa using this
   | none=>rw[ha,hb] at h;exact absurd rfl h
theorem rO (x y:Qi):(x.iD == y.iD && (x.parent == y.parent && (x.leaf == y.leaf && (x.rt.m1 == y.rt.m1 && (x.rt.d == y.rt.d && (x.rt.m2 == y.rt.m2 && (x.ls.m1 == y.ls.m1 && (x.ls.d == y.ls.d && (x.ls.m2 == y.ls.m2 && (x.ul.m1 == y.ul.m1 && (x.ul.d == y.ul.d && (x.ul.m2 == y.ul.m2 && (x.Za == y.Za && x.bytes == y.bytes)))))))))))))=decide (x=y):=by
 rw[Bool.eq_iff_iff]
 simp only[Bool.and_eq_true,beq_iff_eq,decide_eq_true_eq]
 constructor
 ·rintro ⟨h1,h2,h3,h4,h5,h6,h7,h8,h9,Yk,BS,ED,h13,h14⟩
  obtain ⟨a1,a2,a3,⟨a4,a5,a6⟩,⟨a7,a8,a9⟩,⟨b1,b2,b3⟩,b4,b5⟩:=x
  obtain ⟨c1,c2,c3,⟨c4,c5,c6⟩,⟨c7,c8,c9⟩,⟨d1,d2,d3⟩,d4,d5⟩:=y
  simp_all
 ·rintro rfl
  simp
theorem DC:(true == false)=false:=rfl
theorem DD:(false == true)=false:=rfl
theorem QnH:Q7 Tryz.prog 133 [.nil] (Qm .nil):=by
 refine Zk 0 Qe 200 Tryz.func133 rfl Tryz.ntmps133 Tryz.results133 rfl fun base w hb=>?_
 simp only[go_sem,simprocAttr]
theorem QnI {h:List Ob} {lo g:Nat} {Z:List Int} (ho:h[lo]? = some (j5 g Z.toArray)) (hz:Z.length<1000000000) :
  QG Tryz.prog 133 h [.ref lo g 0 Z.length] (fun dd h'=>dd=.ref lo g 0 (Xa Z).length∧∃ row,h'=h.set lo ⟨.arr,g,1,(Xa Z).length,row⟩∧∀ i,i<(Xa Z).length→row i=[Qb ((Xa Z).getD i 0)]):=by
 have hcN:cN (fun i=>Z.toArray[i]!) Z.toArray.size=Xa Z:=by
  unfold Xa
  congr 1
  funext i
  simp
 have hc:=QnA ho (by simpa using hz)
 rw[hcN] at hc
 have hl:=Qd ho
 refine QG.cut (R:=fun dd h'=>dd=.ref lo g 0 (Xa Z).length∧∃ row,h'=h.set lo ⟨.arr,g,1,Z.toArray.size,row⟩∧(∀ i,i<(Xa Z).length→row i=[jI ((Xa Z).getD i 0)])∧∀ i,∃ x,row i=[jI x]) (by simpa using hc) ?_
 rintro d h' ⟨rfl,row,rfl,h1,_⟩
 refine ⟨lo,_,(Xa Z).length,Qw hl,rfl,?_,rfl,row,by rw[List.set_set],h1⟩
 have:=Dy (fun i=>Z.getD i 0) Z.length
 show (Xa Z).length≤Z.toArray.size
 simpa [Xa] using this
structure j6 (F:List Ob) (A B:List Qi) (t1 t2:Nat) (L:List Int) (k:Nat) (s:St):Prop where
 ex:∃ d H,Z3 F.length H d ((L.take k).filter (Kt A B))∧JY F H∧s=⟨[(0,.ptr t1 0 0 0),(1,.ptr t2 0 0 0),(5,d),(17,ints L),(18,Qb L.length),(19,Qb k)],H⟩
theorem j6.of {F:List Ob} {A B:List Qi} {t1 t2:Nat} {L:List Int} {k:Nat} {d:D} {H:List Ob} (hs:Z3 F.length H d ((L.take k).filter (Kt A B))) (hx:JY F H):j6 F A B t1 t2 L k ⟨[(0,.ptr t1 0 0 0),(1,.ptr t2 0 0 0),(5,d),(17,ints L),(18,Qb L.length),(19,Qb k)],H⟩:=⟨⟨d,H,hs,hx,rfl⟩⟩
theorem QnK {h:List Ob} {t1 t2:Nat} {A B:List Qi} (RA:KW h t1 A) (RB:KW h t2 B) (hA:A.length<100000) (hB:B.length<100000) :
  Kp Tryz.prog 51 h [.ptr t1 0 0 0,.ptr t2 0 0 0] (fun d g=>Z3 h.length (h++g) d (Jm A B)):=by
 refine V1 Qe 200 Tryz.func51 rfl Tryz.ntmps51 Tryz.results51 rfl fun base w pl F hF QR hb=>?_
 simp only[go_sem,simprocAttr,Qa]
 have Gz:KW F t1 A:=RA.more (JM hF)
 have GB:KW F t2 B:=RB.more (JM hF)
 refine QL hb OR rfl ?_ (P4 Gz (by omega)) rfl fun d hR=>?_
 ·simp only[go_sem,simprocAttr,Qa]
 subst hR
 refine Qc hb ?_
 simp only[go_sem,simprocAttr,Qa]
 refine QL hb OR rfl ?_ (P4 GB (by omega)) rfl fun d hR=>?_
 ·simp only[go_sem,simprocAttr,Qa]
 subst hR
 refine Qc hb ?_
 simp only[go_sem,simprocAttr,Qa]
 obtain ⟨L,hL⟩:∃ L,L=A.map (·.iD)++B.map (·.iD):=⟨_,rfl⟩
 have hLl:L.length<200000:=by rw[hL];simp;omega
 have J8:∀ W9:Nat→List D,W9 0=[ints (A.map (·.iD))]→W9 1=[ints (B.map (·.iD))]→QQ Tryz.prog 131 (F++[⟨.arr,0,1,2,W9⟩]) [.ref F.length 0 0 2] (fun d=>d=ints L):=fun W9 e0 e1=>by
  rw[hL]
  exact QnE _ F.length W9 _ _ (by simp;omega) (Zv (show (F++[⟨.arr,0,1,2,W9⟩])[F.length]? = some ⟨.arr,0,1,2,W9⟩ by rw[Kq rfl];rfl)) e0 e1
 refine QL hb Qii rfl ?_ (J8 _ (by exact rfl) (by exact rfl)) rfl fun d hR=>?_
 ·simp only[go_sem,simprocAttr,Qa]
 subst hR
 refine Qc hb ?_
 simp only[go_sem,simprocAttr,Qa]
 refine ZB (j6 F A B t1 t2 L) L.length (s0:=⟨[(0,.ptr t1 0 0 0),(1,.ptr t2 0 0 0),(5,.nil),(17,ints L),(18,Qb L.length),(19,Qb 0)],_⟩) (Ql.frame (by simp only[go_sem,simprocAttr])) ⟨⟨_,_,.inl ⟨rfl,by simp⟩,⟨_,rfl⟩,rfl⟩⟩ ?_
 rintro k _ hk ⟨d,H,hs,hx,rfl⟩
 have RA3:∀ g,KW (H++g) t1 A:=fun g=>by
  obtain ⟨x,rfl⟩:=hx
  exact Gz.more fun l o e=>by rw[List.append_assoc];exact yy l o e
 have RB3:∀ g,KW (H++g) t2 B:=fun g=>by
  obtain ⟨x,rfl⟩:=hx
  exact GB.more fun l o e=>by rw[List.append_assoc];exact yy l o e
 have RA4:KW H t1 A:=by have:=RA3 [];rwa [List.append_nil] at this
 by_cases Qq:k<L.length
 ·have dk:=decide_eq_true Qq
  obtain ⟨id,QX⟩:∃ id,id=L.getD k 0:=⟨_,rfl⟩
  have Zt:(L.take (k+1)).filter (Kt A B)=(L.take k).filter (Kt A B)++(if Kt A B id then [id] else []):=by
   rw[getD_take L 0 k Qq,List.filter_append,← QX]
   cases hq:Kt A B id <;> simp [hq]
  have ga:=CZ RA4 id
  have gb:=fun g=>CZ (RB3 g) id
  have Zl:=KG (show k<4611686018427387904 by omega)
  cases ha:Qr A id with
  | some x=>
   rw[ha] at ga
   simp only[Option.getD_some,Option.isSome_some,if_true] at ga
   cases ZZ:Qr B id with
   | some y=>
    rw[ZZ] at gb
    simp only[Option.getD_some,Option.isSome_some,if_true] at gb
    refine Qc hb ?_
    simp only[go_sem,simprocAttr,Qa,dk,Qq,← QX]
    refine QL hb Yr rfl ?_ ga rfl fun d hR=>?_
    ·simp only[go_sem,simprocAttr,Qa]
    subst hR
    refine Qc hb ?_
    simp only[go_sem,simprocAttr,Qa]
    refine QL hb Yr rfl ?_ (gb _) rfl fun d hR=>?_
    ·simp only[go_sem,simprocAttr,Qa,bne,rO]
    subst hR
    refine Qc hb ?_
    simp only[go_sem,simprocAttr,Qa,bne,rO]
    by_cases e:x=y
    ·have hq:Kt A B id=false:=by unfold Kt;rw[ha,ZZ,e];simp
     have dx:=decide_eq_true e
     simp only[go_sem,simprocAttr,Qa,dx]
     refine ⟨Qq,_,Ql.frame (fr':=[(0,.ptr t1 0 0 0),(1,.ptr t2 0 0 0),(5,d),(17,ints L),(18,Qb L.length),(19,Qb (k+1:Nat))]) (by simp only[go_sem,simprocAttr,Zl]),j6.of (by rw[Zt,hq,if_neg (by decide),List.append_nil];exact hs.app _) (hx.app _)⟩
    ·have hq:Kt A B id=true:=by unfold Kt;rw[ha,ZZ];simpa using e
     have dx:=decide_eq_false e
     rcases hs with ⟨rfl,VP⟩ | ⟨lo,g,off,row,rfl,⟨Zp,rfl⟩,ho,hr⟩
     ·simp only[go_sem,simprocAttr,Qa,dx,Go.undef]
      refine ⟨Qq,_,Ql.frame (fr':=[(0,.ptr t1 0 0 0),(1,.ptr t2 0 0 0),(5,.ref (H.length+3) 0 0 1),(17,ints L),(18,Qb L.length),(19,Qb (k+1:Nat))]) (by simp only[go_sem,simprocAttr,Zl]),j6.of (.inr ⟨H.length+3,0,0,fun _=>[Qb id],?_,⟨by have:=hx.len;omega,rfl⟩,?_,?_⟩) (hx.app _)⟩
      ·rw[Zt,VP,hq];rfl
      ·rw[Zt,VP,hq,Ve rfl];rfl
      ·rw[Zt,VP,hq]
       intro i hi
       obtain rfl:i=0:=by simp at hi;omega
       rfl
     ·have Qf:=Qd ho
      rw[Nat.zero_add] at ho
      simp only[go_sem,simprocAttr,Qa,dx,Go.undef,ho,Qf]
      refine ⟨by have:=List.length_filter_le (Kt A B) (L.take k);simp at this;omega,Qq,_,Ql.frame (fr':=[(0,.ptr t1 0 0 0),(1,.ptr t2 0 0 0),(5,.ref lo (g+1) 0 (((L.take k).filter (Kt A B)).length+1)),(17,ints L),(18,Qb L.length),(19,Qb (k+1:Nat))]) (by simp only[go_sem,simprocAttr,Zl]),j6.of (.inr ⟨lo,g+1,0,JJ ((L.take k).filter (Kt A B)).length 0 row (fun _=>[Qb id]),?_,⟨Zp,rfl⟩,?_,?_⟩) ((hx.set Zp _).app _)⟩
      ·rw[Zt,hq];simp
      ·rw[Zt,hq,QU (by simpa using Qf),Qw Qf];simp [Qb]
      ·rw[Zt,hq];exact AP hr
   | none=>
    rw[ZZ] at gb
    simp only[Option.isSome_none,Bool.false_eq_true,if_false] at gb
    have hq:Kt A B id=true:=by unfold Kt;rw[ha,ZZ];simp
    refine Qc hb ?_
    simp only[go_sem,simprocAttr,Qa,dk,Qq,← QX]
    refine QL hb Yr rfl ?_ ga rfl fun d hR=>?_
    ·simp only[go_sem,simprocAttr,Qa]
    subst hR
    refine Qc hb ?_
    simp only[go_sem,simprocAttr,Qa]
    refine QL hb Yr rfl ?_ (gb _) rfl fun d hR=>?_
    ·simp only[go_sem,simprocAttr,Qa,bne,Go.undef,DC,DD]
    subst hR
    refine Qc hb ?_
    simp only[go_sem,simprocAttr,Qa,bne,Go.undef,DC,DD]
    rcases hs with ⟨rfl,VP⟩ | ⟨lo,g,off,row,rfl,⟨Zp,rfl⟩,ho,hr⟩
    ·(try simp only[go_sem,simprocAttr,Qa,Go.undef])
     refine ⟨Qq,_,Ql.frame (fr':=[(0,.ptr t1 0 0 0),(1,.ptr t2 0 0 0),(5,.ref (H.length+3) 0 0 1),(17,ints L),(18,Qb L.length),(19,Qb (k+1:Nat))]) (by simp only[go_sem,simprocAttr,Zl]),j6.of (.inr ⟨H.length+3,0,0,fun _=>[Qb id],?_,⟨by have:=hx.len;omega,rfl⟩,?_,?_⟩) (hx.app _)⟩
     ·rw[Zt,VP,hq];rfl
     ·rw[Zt,VP,hq,Ve rfl];rfl
     ·rw[Zt,VP,hq]
      intro i hi
      obtain rfl:i=0:=by simp at hi;omega
      rfl
    ·have Qf:=Qd ho
     rw[Nat.zero_add] at ho
     simp only[go_sem,simprocAttr,Qa,Go.undef,ho,Qf]
     refine ⟨by have:=List.length_filter_le (Kt A B) (L.take k);simp at this;omega,Qq,_,Ql.frame (fr':=[(0,.ptr t1 0 0 0),(1,.ptr t2 0 0 0),(5,.ref lo (g+1) 0 (((L.take k).filter (Kt A B)).length+1)),(17,ints L),(18,Qb L.length),(19,Qb (k+1:Nat))]) (by simp only[go_sem,simprocAttr,Zl]),j6.of (.inr ⟨lo,g+1,0,JJ ((L.take k).filter (Kt A B)).length 0 row (fun _=>[Qb id]),?_,⟨Zp,rfl⟩,?_,?_⟩) ((hx.set Zp _).app _)⟩
     ·rw[Zt,hq];simp
     ·rw[Zt,hq,QU (by simpa using Qf),Qw Qf];simp [Qb]
     ·rw[Zt,hq];exact AP hr
  | none=>
   rw[ha] at ga
   simp only[Option.isSome_none,Bool.false_eq_true,if_false] at ga
   cases ZZ:Qr B id with
   | some y=>
    rw[ZZ] at gb
    simp only[Option.getD_some,Option.isSome_some,if_true] at gb
    have hq:Kt A B id=true:=by unfold Kt;rw[ha,ZZ];simp
    refine Qc hb ?_
    simp only[go_sem,simprocAttr,Qa,dk,Qq,← QX]
    refine QL hb Yr rfl ?_ ga rfl fun d hR=>?_
    ·simp only[go_sem,simprocAttr,Qa]
    subst hR
    refine Qc hb ?_
    simp only[go_sem,simprocAttr,Qa]
    refine QL hb Yr rfl ?_ (gb _) rfl fun d hR=>?_
    ·simp only[go_sem,simprocAttr,Qa,bne,Go.undef,DC,DD]
    subst hR
    refine Qc hb ?_
    simp only[go_sem,simprocAttr,Qa,bne,Go.undef,DC,DD]
    rcases hs with ⟨rfl,VP⟩ | ⟨lo,g,off,row,rfl,⟨Zp,rfl⟩,ho,hr⟩
    ·(try simp only[go_sem,simprocAttr,Qa,Go.undef])
     refine ⟨Qq,_,Ql.frame (fr':=[(0,.ptr t1 0 0 0),(1,.ptr t2 0 0 0),(5,.ref (H.length+3) 0 0 1),(17,ints L),(18,Qb L.length),(19,Qb (k+1:Nat))]) (by simp only[go_sem,simprocAttr,Zl]),j6.of (.inr ⟨H.length+3,0,0,fun _=>[Qb id],?_,⟨by have:=hx.len;omega,rfl⟩,?_,?_⟩) (hx.app _)⟩
     ·rw[Zt,VP,hq];rfl
     ·rw[Zt,VP,hq,Ve rfl];rfl
     ·rw[Zt,VP,hq]
      intro i hi
      obtain rfl:i=0:=by simp at hi;omega
      rfl
    ·have Qf:=Qd ho
     rw[Nat.zero_add] at ho
     simp only[go_sem,simprocAttr,Qa,Go.undef,ho,Qf]
     refine ⟨by have:=List.length_filter_le (Kt A B) (L.take k);simp at this;omega,Qq,_,Ql.frame (fr':=[(0,.ptr t1 0 0 0),(1,.ptr t2 0 0 0),(5,.ref lo (g+1) 0 (((L.take k).filter (Kt A B)).length+1)),(17,ints L),(18,Qb L.length),(19,Qb (k+1:Nat))]) (by simp only[go_sem,simprocAttr,Zl]),j6.of (.inr ⟨lo,g+1,0,JJ ((L.take k).filter (Kt A B)).length 0 row (fun _=>[Qb id]),?_,⟨Zp,rfl⟩,?_,?_⟩) ((hx.set Zp _).app _)⟩
     ·rw[Zt,hq];simp
     ·rw[Zt,hq,QU (by simpa using Qf),Qw Qf];simp [Qb]
     ·rw[Zt,hq];exact AP hr
   | none=>
    rw[ZZ] at gb
    simp only[Option.isSome_none,Bool.false_eq_true,if_false] at gb
    have hq:Kt A B id=false:=by unfold Kt;rw[ha,ZZ];simp
    refine Qc hb ?_
    simp only[go_sem,simprocAttr,Qa,dk,Qq,← QX]
    refine QL hb Yr rfl ?_ ga rfl fun d hR=>?_
    ·simp only[go_sem,simprocAttr,Qa]
    subst hR
    refine Qc hb ?_
    simp only[go_sem,simprocAttr,Qa]
    refine QL hb Yr rfl ?_ (gb _) rfl fun d hR=>?_
    ·simp only[go_sem,simprocAttr,Qa,bne,Go.undef,DC,DD]
    subst hR
    refine Qc hb ?_
    simp only[go_sem,simprocAttr,Qa,bne,Go.undef,DC,DD]
    refine ⟨Qq,_,Ql.frame (fr':=[(0,.ptr t1 0 0 0),(1,.ptr t2 0 0 0),(5,d),(17,ints L),(18,Qb L.length),(19,Qb (k+1:Nat))]) (by simp only[go_sem,simprocAttr,Zl]),j6.of (by rw[Zt,hq,if_neg (by decide),List.append_nil];exact hs.app _) (hx.app _)⟩
 ·have Z1:k=L.length:=by omega
  have dk:=decide_eq_false Qq
  rw[Z1,List.take_length] at hs
  have wG:qV A B=L.filter (Kt A B):=by rw[hL];rfl
  rw[← wG] at hs
  have Qt1:(qV A B).length<200000:=by have:=List.length_filter_le (Kt A B) L;rw[wG];omega
  rcases hs with ⟨rfl,VP⟩ | ⟨lo,g,off,row,rfl,⟨Zp,rfl⟩,ho,hr⟩
  ·refine Qc hb ?_
   simp only[go_sem,simprocAttr,Qa,dk]
   refine Qc hb ?_
   simp only[go_sem,simprocAttr,Qa]
   refine Q5 hb Le rfl ?_ (nj H) rfl fun d h hR=>?_
   ·simp only[go_sem,simprocAttr]
   obtain ⟨rfl,rfl⟩:=hR
   refine Qc hb ?_
   simp only[go_sem,simprocAttr]
   have ht:Jm A B=[]:=by unfold Jm;rw[VP];simp [sorted,Xa,cN]
   refine QM hb mm rfl ?_ QnH (Qm.flat rfl) rfl fun d h hR=>?_
   ·simp only[go_sem,simprocAttr,Qa]
   obtain ⟨rfl,rfl⟩:=hR
   refine Qc hb ?_
   simp only[go_sem,simprocAttr,Qa]
   exact Z3.done QR hx (.inl ⟨rfl,ht⟩)
  ·have Qf:=Qd ho
   refine Qc hb ?_
   simp only[go_sem,simprocAttr,Qa,dk]
   refine Qc hb ?_
   simp only[go_sem,simprocAttr,Qa]
   refine Q5 hb Le rfl ?_ (ni ho (by omega) hr (by omega)) rfl fun d h hR=>?_
   ·simp only[go_sem,simprocAttr]
   obtain ⟨rfl,rfl⟩:=hR
   refine Qc hb ?_
   simp only[go_sem,simprocAttr]
   obtain ⟨Z,hZ⟩:∃ Z,Z=sorted (qV A B):=⟨_,rfl⟩
   have hZl:Z.length=(qV A B).length:=by rw[hZ,yn]
   rw[← hZ,← hZl]
   refine IP (Ql.rows lo (Bu Z.toArray) (Qw Qf) (fun i hi=>?_)) ?_
   ·dsimp only at hi ⊢
    unfold Yw
    rw[if_pos ⟨Nat.zero_le _,by omega⟩,Nat.sub_zero,Qnx]
    simp [jI]
   rw[List.set_set]
   dsimp only
   have ht:Xa Z=Jm A B:=by rw[hZ];rfl
   have hc:=QnI (h:=H.set lo (j5 g Z.toArray)) (lo:=lo) (g:=g) (Z:=Z) (Qw Qf) (by omega)
   rw[ht] at hc
   have Zz:Z.toArray.size=Z.length:=by simp
   rw[← Zz]
   refine Q5 hb mm rfl ?_ (Zz▸hc) rfl fun d h hR=>?_
   ·simp only[go_sem,simprocAttr]
   obtain ⟨rfl,KK,rfl,GC⟩:=hR
   refine Qc hb ?_
   simp only[go_sem,simprocAttr]
   rw[List.set_set]
   refine Z3.done QR (hx.set Zp _) (.inr ⟨lo,g,0,KK,rfl,⟨Zp,rfl⟩,by rw[Qw Qf,Nat.zero_add],fun i hi=>by rw[Nat.zero_add];exact GC i hi⟩)
theorem rP {h:List Ob} {t1 t2:Nat} {A B:List Qi} (RA:KW h t1 A) (RB:KW h t2 B) (hA:A.length<100000) (hB:B.length<100000) :
  QQ Tryz.prog 51 h [.ptr t1 0 0 0,.ptr t2 0 0 0] (fun d=>d=ints (Jm A B)):=Z3.closed (QnK RA RB hA hB)
def qn (T:List Qi):Prop:=∀ c∈T,Qi.Ok c
theorem Cv.Ok.nn {c:Cv} (h:Cv.Ok c):c.Nn:=⟨(wf_u64 h.1).1,(wf_u64 h.2.1).1,(wf_u64 h.2.2.1).1⟩
theorem Qi.Ok.nn {c:Qi} (h:Qi.Ok c):c.Nn:=⟨h.2.2.2.1.nn,h.2.2.2.2.1.nn,h.2.2.2.2.2.1.nn⟩
theorem Cv.Ok.lt {c:Cv} (h:Cv.Ok c):(Jl c).Lt:=by
 have h1:=wf_u64 h.1
 have h2:=wf_u64 h.2.1
 have h3:=wf_u64 h.2.2.1
 refine ⟨?_,?_,?_⟩ <;> (simp only[Jl];omega)
theorem qn.QnP {T:List Qi} (h:qn T):∀ c∈VR T,c.Lt:=fun c hc=>by
 obtain ⟨x,hx,rfl⟩:=List.mem_map.1 hc
 exact (h x (List.mem_filter.1 hx).1).2.2.2.1.lt
theorem qn.one {T:List Qi} (h:qn T) (hr:KH T) {c:ZP} (hc:ZP.Ok c):qn (jV T c):=by
 unfold jV
 split
 ·split
  ·exact fun d hd=>h d (List.mem_filter.1 hd).1
  ·intro d hd
   rcases zI hr c.cls hd with rfl | hd
   ·exact hc.2.1
   ·exact h d hd
 ·exact h
def Vx:List Qi→List ZP→Nat→Int × Nat × List Qi
 | T,[],_=>(0,0,T)
 | T,c::l,i=>if ql T c≠0 then (ql T c,i,T) else Vx (jV T c) l (i+1)
def zT (T:List Qi) (t:Int) (l:List ZP):Int:=
 if 32<l.length then 2 else if (Vx T l 0).1≠0 then (Vx T l 0).1 else vw t (VR (Vx T l 0).2.2)
def DE (T:List Qi) (l:List ZP):Nat:=if 32<l.length then 0 else if (Vx T l 0).1≠0 then (Vx T l 0).2.1 else 0
def j7 (T:List Qi) (l:List ZP):List Qi:=(Vx T l 0).2.2
theorem rQ:∀ (l:List ZP) (T:List Qi) (i:Nat),JA T→qn T→(∀ c∈l,ZP.Ok c)→JA (Vx T l i).2.2∧qn (Vx T l i).2.2
 | [],T,i,I,K,_=>⟨I,K⟩
 | c::l,T,i,I,K,hc=>by
  rw[Vx]
  split
  ·exact ⟨I,K⟩
  ·exact rQ l _ _ (I.one c) (K.one I.rising (hc c (by simp))) fun d hd=>hc d (by simp [hd])
theorem QnQ {T0 T:List Qi} {l:List ZP} {k:Nat} (hk:k<l.length) (h:Vx T0 l 0=Vx T (l.drop k) k):Vx T0 l 0=if ql T (l.getD k default)≠0 then (ql T (l.getD k default),k,T) else Vx (jV T (l.getD k default)) (l.drop (k+1)) (k+1):=by
 rw[h,List.drop_eq_getElem_cons hk,Vx,List.getD_eq_getElem?_getD,List.getElem?_eq_getElem hk]
 rfl
@[go_sem] def DF (l:List ZP):D:=.imm 15 l.length (ZP.rows l)
theorem QnR {S:Nat→Prop} {h:List Ob} {t:Nat} {T:List Qi} (R:Kf S h t T) (I:JA T) (K:qn T) (n:Int) (Jb:1≤n) (V3:n≤65536) (l:List ZP) (hc:∀ c∈l,ZP.Ok c) (hl:l.length<1000000) :
  QG Tryz.prog 50 h [.ptr t 0 0 0,Qb n,DF l] (fun d h'=>∃ p,d=.tup [if zT T n l=0 then .ptr p 0 0 0 else .raw (.pointer none),Qb (DE T l),Qb (zT T n l)]∧(zT T n l=0→Kf (fun l=>h.length≤l) h' p (j7 T l))∧∃ g,h'=h++g):=by
 have d1:decide (n<1)=false:=decide_eq_false (by omega)
 have d2:decide (65536<n)=false:=decide_eq_false (by omega)
 by_cases Mx:32<l.length
 ·have d3:decide ((32:Int)<(l.length:Int))=true:=decide_eq_true (by omega)
  have e1:zT T n l=2:=if_pos Mx
  have e2:DE T l=0:=if_pos Mx
  refine QW Qe 200 Tryz.func50 rfl Tryz.ntmps50 Tryz.results50 rfl fun base w pl hb=>?_
  simp only[go_sem,simprocAttr,Qa,d1,d2,d3]
  rw[e1,e2]
  exact ⟨0,rfl,(fun h=>absurd h (by decide)),[],(List.append_nil _).symm⟩
 ·have d3:decide ((32:Int)<(l.length:Int))=false:=decide_eq_false (by omega)
  refine QW Qe 200 Tryz.func50 rfl Tryz.ntmps50 Tryz.results50 rfl fun base w pl hb=>?_
  simp only[go_sem,simprocAttr,Qa,d1,d2,d3]
  refine Q5 hb QhY rfl ?_ (QlW R) rfl fun d h hR=>?_
  ·simp only[go_sem,simprocAttr]
  obtain ⟨rfl,R2,g,rfl,hg⟩:=hR
  refine Qc hb ?_
  simp only[go_sem,simprocAttr]
  have Cc:DE T l=if (Vx T l 0).1≠0 then (Vx T l 0).2.1 else 0:=if_neg Mx
  have My:zT T n l=if (Vx T l 0).1≠0 then (Vx T l 0).1 else vw n (VR (Vx T l 0).2.2):=if_neg Mx
  refine ZB (fun k st=>∃ Tk H,Kf (fun l=>h.length≤l) H (h.length+1) Tk∧JA Tk∧qn Tk∧Vx T l 0=Vx Tk (l.drop k) k∧(∃ g,H=h++g)∧st=⟨[(1,Qb n),(9,.ptr (h.length+1) 0 0 0),(30,DF l),(31,Qb l.length),(32,Qb k)],H⟩) l.length (s0:=⟨[(1,Qb n),(9,.ptr (h.length+1) 0 0 0),(30,DF l),(31,Qb l.length),(32,Qb 0)],h++g⟩) (Ql.frame (by simp only[go_sem,simprocAttr])) ⟨T,_,R2,I,K,rfl,⟨_,rfl⟩,rfl⟩ ?_
  rintro k _ hk ⟨Tk,H,Rk,Ik,Kk,kF,⟨g2,rfl⟩,rfl⟩
  by_cases Qq:k<l.length
  ·have dk:=decide_eq_true Qq
   have Zt:=QnQ Qq kF
   have rR:ZP.Ok (l.getD k default):=hc _ (yl l default k Qq)
   obtain ⟨x,hx⟩:∃ x,x=l.getD k default:=⟨_,rfl⟩
   rw[← hx] at Zt rR
   have HI:=fun g=>(show QG Tryz.prog 128 (h++(g2++g)) [.ptr (h.length+1) 0 0 0,.agg x.cells] (fun d h'=>d=Qb (ql Tk x)∧Kf (fun l=>h.length≤l∧l<(h++g2).length) h' (h.length+1) (jV Tk x)∧Step (fun l=>h.length≤l∧l<(h++g2).length) (h++(g2++g)) h') by rw[← List.append_assoc];exact Ql5 (Rk.app g) Ik x)
   have Zl:=KG (show k<4611686018427387904 by omega)
   refine Qc hb ?_
   simp only[go_sem,simprocAttr,Qa,dk,Qq,ZP.kS,← hx]
   refine Q5 hb Qif rfl ?_ (HI _) rfl fun d h6 hR=>?_
   ·simp only[go_sem,simprocAttr]
   obtain ⟨rfl,R6,s6⟩:=hR
   have rS:∃ g,h6=h++g:=by
    refine ⟨h6.drop h.length,?_⟩
    apply List.ext_getElem?
    intro i
    by_cases hi:i<h.length
    ·rw[QU hi,s6.keep i (by simp;omega) (fun h=>by have:=h.1;omega),QU hi]
    ·rw[List.getElem?_append_right (by omega),List.getElem?_drop]
     congr 1
     omega
   have R7:Kf (fun l=>h.length≤l) h6 (h.length+1) (jV Tk x):=R6.step fun l _ hs=>⟨hs.1,rfl⟩
   refine Qc hb ?_
   simp only[go_sem,simprocAttr]
   by_cases h0:ql Tk x=0
   ·rw[if_neg (by simpa using h0)] at Zt
    have d0:(ql Tk x != 0)=false:=by simpa using h0
    simp only[go_sem,simprocAttr,d0]
    exact ⟨Qq,_,Ql.frame (by simp only[go_sem,simprocAttr,Zl]),jV Tk x,_,R7,Ik.one x,Kk.one Ik.rising rR,Zt,rS,rfl⟩
   ·rw[if_pos (by simpa using h0)] at Zt
    have d0:(ql Tk x != 0)=true:=by simpa using h0
    simp only[go_sem,simprocAttr,d0]
    rw[Cc,My,Zt]
    simp only[if_pos (show ql Tk x≠0 from h0),if_neg h0]
    exact ⟨0,trivial,(fun h=>absurd h h0),rS⟩
  ·have Z1:k=l.length:=by omega
   have dk:=decide_eq_false Qq
   rw[Z1,List.drop_length,Vx] at kF
   rw[kF] at Cc My
   simp only[ne_eq,not_true_eq_false,if_false] at Cc My
   have hT:j7 T l=Tk:=by unfold j7;rw[kF]
   have hlen:=Ik.len
   have hre:QQ Tryz.prog 130 (h++g2) [.ptr (h.length+1) 0 0 0] (fun d=>d=Vi (VR Tk)):=by
    obtain ⟨m,c,es,h1,h2,h3⟩:=Rk.toR
    exact Qnw _ _ m c h3 (by omega) h1 h2 (fun x hx=>(Kk x hx).nn)
   have Z5:=Qns Tk
   refine Qc hb ?_
   simp only[go_sem,simprocAttr,Qa,dk]
   refine Qc hb ?_
   simp only[go_sem,simprocAttr,Qa]
   refine QL hb Qih rfl ?_ hre rfl fun d hR=>?_
   ·simp only[go_sem,simprocAttr,Qa]
   subst hR
   refine Qc hb ?_
   simp only[go_sem,simprocAttr,Qa]
   refine QM hb Qig rfl ?_ (Qnl n (VR Tk) (by omega) Kk.QnP) (Qm.flat rfl) rfl fun d h hR=>?_
   ·simp only[go_sem,simprocAttr,Qa]
   obtain ⟨rfl,rfl⟩:=hR
   refine Qc hb ?_
   simp only[go_sem,simprocAttr,Qa]
   rw[Cc,My,hT]
   by_cases h0:vw n (VR Tk)=0
   ·have d0:(vw n (VR Tk) != 0)=false:=by simpa using h0
    simp only[go_sem,simprocAttr,Qa,d0]
    rw[h0]
    exact ⟨h.length+1,by simp,fun _=>Rk,g2,rfl⟩
   ·have d0:(vw n (VR Tk) != 0)=true:=by simpa using h0
    simp only[go_sem,simprocAttr,Qa,d0]
    exact ⟨0,by simp [h0],fun h=>absurd h h0,g2,rfl⟩
theorem rT {T:List Qi} (I:JA T) (K:qn T) {l:List ZP} (hc:∀ c∈l,ZP.Ok c):JA (j7 T l)∧qn (j7 T l):=rQ l T 0 I K hc
def yL (T:List Qi) (id:Int):Bool:=decide (1<QH ((Qr T id).getD default).rt)
def Mz (A B:List Qi):Bool:=(Jm A B).any fun id=>yL A id || yL B id
structure Nd where
 c:Qi
 ZV:Nat
 du:Du
 sh:Sh
 cp:Cp
 q:Qu
instance:Inhabited Nd:=⟨⟨default,0,default,default,default,default⟩⟩
def Jn (d:D) (n:Nd):List D:=d::(n.c.cells++(u64 n.ZV::(n.du.cells++(n.sh.cells++n.cp.cells))))
section
variable (d:D) (n:Nd)
@[go_sem] theorem Qt2:(Jn d n).getD 0 D.undef=d:=rfl
@[go_sem] theorem Qt3:(List.drop 1 (Jn d n)).getD 0 D.undef=Qb n.c.iD:=rfl
@[go_sem] theorem Qt4:(List.drop 2 (Jn d n)).getD 0 D.undef=Qb n.c.parent:=rfl
@[go_sem] theorem Qt5:(List.drop 3 (Jn d n)).getD 0 D.undef=QN n.c.leaf:=rfl
@[go_sem] theorem Qt6:(List.drop 15 (Jn d n)).getD 0 D.undef=u64 n.ZV:=rfl
@[go_sem] theorem Qt7:(List.drop 36 (Jn d n)).getD 0 D.undef=u64 n.du.Vw:=rfl
@[go_sem] theorem Qt8:(List.drop 37 (Jn d n)).getD 0 D.undef=u64 n.du.dead:=rfl
@[go_sem] theorem Qt9:(List.drop 48 (Jn d n)).getD 0 D.undef=u64 n.sh.time:=rfl
@[go_sem] theorem Qua:(List.drop 59 (Jn d n)).getD 0 D.undef=u64 n.cp.fit:=rfl
@[go_sem] theorem Qub:List.take 14 (List.drop 1 (Jn d n))=n.c.cells:=rfl
@[go_sem] theorem Quc:List.take 3 (List.drop 4 (Jn d n))=n.c.rt.cells:=rfl
@[go_sem] theorem Qud:List.take 3 (List.drop 7 (Jn d n))=n.c.ls.cells:=rfl
@[go_sem] theorem Que:List.take 3 (List.drop 10 (Jn d n))=n.c.ul.cells:=rfl
@[go_sem] theorem Quf:List.take 22 (List.drop 16 (Jn d n))=n.du.cells:=rfl
@[go_sem] theorem Qug:List.take 11 (List.drop 38 (Jn d n))=n.sh.cells:=rfl
@[go_sem] theorem Quh:List.take 11 (List.drop 49 (Jn d n))=n.cp.cells:=rfl
@[go_sem] theorem Qui (v:Nat):List.take 15 (Jn d n)++(.raw (.int .u64 ((v:Nat):Int))::List.drop 16 (Jn d n))=Jn d { n with ZV:=v }:=rfl
@[go_sem] theorem Quj (x:Du):List.take 16 (Jn d n)++(.raw (.bool x.has)::.raw (.int .u64 ((x.dl.f.x:Nat):Int))::.raw (.int .u64 ((x.dl.f.y / 18446744073709551616:Nat):Int))::.raw (.int .u64 ((x.dl.f.y % 18446744073709551616:Nat):Int))::.raw (.int .u64 ((x.dl.f.m:Nat):Int))::.raw (.int .u64 ((x.dl.t.x:Nat):Int))::.raw (.int .u64 ((x.dl.t.y / 18446744073709551616:Nat):Int))::.raw (.int .u64 ((x.dl.t.y % 18446744073709551616:Nat):Int))::.raw (.int .u64 ((x.dl.t.m:Nat):Int))::.raw (.bool x.dl.b)::.raw (.int .u64 ((x.rd.f.x:Nat):Int))::.raw (.int .u64 ((x.rd.f.y / 18446744073709551616:Nat):Int))::.raw (.int .u64 ((x.rd.f.y % 18446744073709551616:Nat):Int))::.raw (.int .u64 ((x.rd.f.m:Nat):Int))::.raw (.int .u64 ((x.rd.t.x:Nat):Int))::.raw (.int .u64 ((x.rd.t.y / 18446744073709551616:Nat):Int))::.raw (.int .u64 ((x.rd.t.y % 18446744073709551616:Nat):Int))::.raw (.int .u64 ((x.rd.t.m:Nat):Int))::.raw (.bool x.rd.b)::.raw (.int .u64 ((x.ZK:Nat):Int))::.raw (.int .u64 ((x.Vw:Nat):Int))::.raw (.int .u64 ((x.dead:Nat):Int))::List.drop 38 (Jn d n))=Jn d { n with du:=x }:=rfl
@[go_sem] theorem QnT (x:Sh):List.take 38 (Jn d n)++(.raw (.bool x.has)::.raw (.int .u64 ((x.run.f.x:Nat):Int))::.raw (.int .u64 ((x.run.f.y / 18446744073709551616:Nat):Int))::.raw (.int .u64 ((x.run.f.y % 18446744073709551616:Nat):Int))::.raw (.int .u64 ((x.run.f.m:Nat):Int))::.raw (.int .u64 ((x.run.t.x:Nat):Int))::.raw (.int .u64 ((x.run.t.y / 18446744073709551616:Nat):Int))::.raw (.int .u64 ((x.run.t.y % 18446744073709551616:Nat):Int))::.raw (.int .u64 ((x.run.t.m:Nat):Int))::.raw (.bool x.run.b)::.raw (.int .u64 ((x.time:Nat):Int))::List.drop 49 (Jn d n))=Jn d { n with sh:=x }:=rfl
@[go_sem] theorem Quk (x:Cp):List.take 49 (Jn d n)++(.raw (.bool x.has)::.raw (.int .u64 ((x.run.f.x:Nat):Int))::.raw (.int .u64 ((x.run.f.y / 18446744073709551616:Nat):Int))::.raw (.int .u64 ((x.run.f.y % 18446744073709551616:Nat):Int))::.raw (.int .u64 ((x.run.f.m:Nat):Int))::.raw (.int .u64 ((x.run.t.x:Nat):Int))::.raw (.int .u64 ((x.run.t.y / 18446744073709551616:Nat):Int))::.raw (.int .u64 ((x.run.t.y % 18446744073709551616:Nat):Int))::.raw (.int .u64 ((x.run.t.m:Nat):Int))::.raw (.bool x.run.b)::.raw (.int .u64 ((x.fit:Nat):Int))::List.drop 60 (Jn d n))=Jn d { n with cp:=x }:=rfl
end
inductive Tag where
 | no | sc | tree | SC | YZ (id:Int) | Wl (id:Int) | on | lv | mk | Vm (id:Int) | MA
deriving DecidableEq
def Zg (own:Nat→Tag) (h:List Ob) (t:Tag):Nat→Tag:=fun l=>if h.length≤l then t else own l
theorem MB {own:Nat→Tag} {h:List Ob} {t:Tag} (l:Nat):more (fun l=>own l=t) h l→Zg own h t l=t:=fun hl=>by
 unfold Zg
 split
 ·rfl
 ·rcases hl with hl | hl
  ·exact hl
  ·omega
theorem qo {own:Nat→Tag} {h:List Ob} {t:Tag} {l:Nat} (hl:l<h.length):Zg own h t l=own l:=by unfold Zg;rw[if_neg (by omega)]
structure Qj where
 lk:Cf
 T:List Qi
 To:List Qi
 N:List Nd
 A:List Int
 Lv:List It
 ks:Int→Bool
 KT:Int→List It
 Zx:Nat
 acc:Nat
structure Loc where
 t:Nat
 b:Nat
 o:Nat
 v:Nat
 m:Nat
 cb:Nat
 cm:Nat
 eb:List QK
 em:List QK
 le:Int→Nat
 lq:Int→Nat
 lk:Int→Nat
def Qh (N:List Nd) (id:Int):Option Nd:=N.find? fun n=>n.c.iD == id
@[go_sem] def XD (c:Cf) (t b o v m Zx acc:Nat):Ob:=⟨.one,0,9,1,fun _=>[Qb c.t,Qb c.VJ,.ptr t 0 0 0,.mref b 0,.ptr o 0 0 0,.ptr v 0 0 0,.mref m 0,u64 Zx,u64 acc]⟩
@[go_sem] def VS (d:D) (n:Nd):Ob:=⟨.one,0,60,1,fun _=>Jn d n⟩
def qD (lq:Int→Nat) (n:Nd):D:=if n.c.leaf=true then .ptr (lq n.c.iD) 0 0 0 else .raw (.pointer none)
structure Nd.Ok (n:Nd):Prop where
 ZV:n.ZV<18446744073709551616
 du:n.du.Ok
 sh:n.sh.Ok
 cp:n.cp.Ok
 c:Qi.Ok n.c
structure Q4 (own:Nat→Tag) (h:List Ob) (p:Nat) (L:Loc) (M:Qj):Prop where
 ob:h[p]? = some (XD M.lk L.t L.b L.o L.v L.m M.Zx M.acc)
 op:own p=.sc
 tr:Kf (fun l=>own l=.tree) h L.t M.T
 JS:h[L.b]? = some (QE .i64 L.cb L.eb)
 Wm:Jv L.eb (fun id=>(Qh M.N id).map fun _=>.ptr (L.le id) 0 0 0)
 ow:own L.b=.SC
 Zy:∀ id n,Qh M.N id=some n→h[L.le id]? = some (VS (qD L.lq n) n)∧own (L.le id)=.YZ id
 K5:∀ id n,Qh M.N id=some n→n.c.leaf=true→∃ k:Nat,n.c.Za=k∧YA (fun l=>own l=.Wl id) h (L.lq id) k n.c.bytes n.q
 Wn:W6 (fun l=>own l=.on) h L.o M.To M.A
 Vn:Kr (fun l=>own l=.lv) h L.v M.Lv
 J3:h[L.m]? = some (QE .i64 L.cm L.em)
 Vo:Jv L.em (fun id=>if M.ks id=true then some (.ptr (L.lk id) 0 0 0) else none)
 om:own L.m=.mk
 kids:∀ id,M.ks id=true→Kr (fun l=>own l=.Vm id) h (L.lk id) (M.KT id)
 V8:∀ id n,Qh M.N id=some n→n.Ok
theorem Kr.step {S S':Nat→Prop} {h h':List Ob} {p:Nat} {L:List It} (e:∀ l,l<h.length→S l→S' l∧h'[l]? = h[l]?):Kr S h p L→Kr S' h' p L:=fun ⟨a,m,t,c,es,T⟩=>
 have k:∀ l o,S l→h[l]? = some o→h'[l]? = some o:=fun l o h1 h2=>(e l (Qd h2) h1).2.trans h2
 ⟨a,m,t,c,es,k _ _ T.sp T.o,⟨k _ _ T.sa T.av.o,T.av.is.frame fun l hl=>(e l (T.av.is.lt l hl) (T.st l hl)).2,T.av.list,T.av.nd,T.av.out,T.av.sorted⟩,k _ _ T.sm T.mo,T.mp,T.vi,T.pa,T.pm,T.am,T.pt,T.mt,(e _ (Qd T.o) T.sp).1,(e _ (Qd T.av.o) T.sa).1,(e _ (Qd T.mo) T.sm).1,fun l hl=>(e l (T.av.is.lt l hl) (T.st l hl)).1⟩
def Live (t:Tag):Prop:=t≠.no∧t≠.MA
theorem Q4.step {own own':Nat→Tag} {h h':List Ob} {p:Nat} {L:Loc} {M:Qj} (C:Q4 own h p L M) (e:∀ l,l<h.length→Live (own l)→own' l=own l∧h'[l]? = h[l]?):Q4 own' h' p L M:=by
 have k:∀ l o t,own l=t→Live t→h[l]? = some o→h'[l]? = some o:=fun l o t h1 h2 h3=>(e l (Qd h3) (by rw[h1];exact h2)).2.trans h3
 have o1:∀ l o t,own l=t→Live t→h[l]? = some o→own' l=t:=fun l o t h1 h2 h3=>by rw[(e l (Qd h3) (by rw[h1];exact h2)).1,h1]
 have s:∀ t,Live t→∀ l,l<h.length→own l=t→own' l=t∧h'[l]? = h[l]? := fun t h2 l hl h1=>by
  obtain ⟨a,b⟩:=e l hl (by rw[h1];exact h2)
  exact ⟨by rw[a,h1],b⟩
 refine ⟨k _ _ _ C.op (by simp [Live]) C.ob,o1 _ _ _ C.op (by simp [Live]) C.ob,C.tr.step (s _ (by simp [Live])),k _ _ _ C.ow (by simp [Live]) C.JS,C.Wm,o1 _ _ _ C.ow (by simp [Live]) C.JS,fun id n hn=>?_,fun id n hn hl=>?_,C.Wn.step (s _ (by simp [Live])),C.Vn.step (s _ (by simp [Live])),k _ _ _ C.om (by simp [Live]) C.J3,C.Vo,o1 _ _ _ C.om (by simp [Live]) C.J3,fun id hk=>(C.kids id hk).step (s _ (by simp [Live])),C.V8⟩
 ·obtain ⟨h1,h2⟩:=C.Zy id n hn
  exact ⟨k _ _ _ h2 (by simp [Live]) h1,o1 _ _ _ h2 (by simp [Live]) h1⟩
 ·obtain ⟨kk,h1,h2⟩:=C.K5 id n hn hl
  exact ⟨kk,h1,h2.step (s _ (by simp [Live]))⟩
structure Q6 (own:Nat→Tag) (h:List Ob) (own':Nat→Tag) (h':List Ob):Prop where
 same:∀ l,l<h.length→own' l=own l
 keep:∀ l,l<h.length→own l=Tag.no→h'[l]? = h[l]?
 len:h.length≤h'.length
theorem Q6.refl (own:Nat→Tag) (h:List Ob):Q6 own h own h:=⟨fun _ _=>rfl,fun _ _ _=>rfl,Nat.le_refl _⟩
theorem Q6.trans {own own' rU:Nat→Tag} {h h' Xf:List Ob} (a:Q6 own h own' h') (b:Q6 own' h' rU Xf):Q6 own h rU Xf:=
 ⟨fun l hl=>(b.same l (Nat.lt_of_lt_of_le hl a.len)).trans (a.same l hl),fun l hl hn=>(b.keep l (Nat.lt_of_lt_of_le hl a.len) ((a.same l hl).trans hn)).trans (a.keep l hl hn),Nat.le_trans a.len b.len⟩
theorem Q6.app (own:Nat→Tag) (h g:List Ob) (t:Tag):Q6 own h (Zg own h t) (h++g):=⟨fun l hl=>qo hl,fun l hl _=>QU hl,by simp⟩
theorem Q6.of {own:Nat→Tag} {h h':List Ob} {t:Tag} (ht:t≠.no) (s:Step (fun l=>own l=t) h h'):Q6 own h (Zg own h t) h':=
 ⟨fun l hl=>qo hl,fun l hl hn=>s.keep l hl (by rw[hn];exact fun e=>ht e.symm),s.len⟩
theorem Q6.set {own:Nat→Tag} {h:List Ob} {l:Nat} (o:Ob) (hl:own l≠.no):Q6 own h own (h.set l o):=⟨fun _ _=>rfl,fun j hj hn=>Qt (fun e=>hl (e▸hn)),by simp⟩
section
variable {own:Nat→Tag} {h h':List Ob} {p:Nat} {L:Loc} {M:Qj} (C:Q4 own h p L M)
include C
theorem Q4.app (g:List Ob):Q4 (Zg own h .MA) (h++g) p L M:=C.step fun l hl _=>⟨qo hl,QU hl⟩
theorem Q4.xl (g:List Ob):Q4 (Zg own h .no) (h++g) p L M:=C.step fun l hl _=>⟨qo hl,QU hl⟩
theorem Q4.loc {l:Nat} (hl:own l=.no) (o:Ob):Q4 own (h.set l o) p L M:=C.step fun j _ hj=>⟨rfl,Qt (fun e=>hj.1 (by rw[← e,hl]))⟩
theorem Q4.MA {l:Nat} (hl:own l=.MA) (o:Ob):Q4 own (h.set l o) p L M:=C.step fun j _ hj=>⟨rfl,Qt (fun e=>hj.2 (by rw[← e,hl]))⟩
theorem Q4.rest {t:Tag} (s:Step (fun l=>own l=t) h h'):∀ u,u≠t→∀ l,l<h.length→own l=u→Zg own h t l=u∧h'[l]? = h[l]? := fun u hu l hl h1=>
 ⟨by rw[qo hl,h1],s.keep l hl (by rw[h1];exact hu)⟩
theorem Q4.Vm (id:Int) (hk:M.ks id=true) {B:List It} (T':Kr (more (fun l=>own l=.Vm id) h) h' (L.lk id) B) (s:Step (fun l=>own l=.Vm id) h h'):Q4 (Zg own h (.Vm id)) h' p L { M with KT:=fun j=>if j=id then B else M.KT j }:=by
 have r:=C.rest s
 have k:∀ l o t,own l=t→t≠.Vm id→h[l]? = some o→h'[l]? = some o∧Zg own h (.Vm id) l=t:=fun l o t h1 h2 h3=>by
  obtain ⟨a,b⟩:=r t h2 l (Qd h3) h1
  exact ⟨b.trans h3,a⟩
 refine ⟨(k _ _ _ C.op (by simp) C.ob).1,(k _ _ _ C.op (by simp) C.ob).2,C.tr.step (r _ (by simp)),(k _ _ _ C.ow (by simp) C.JS).1,C.Wm,(k _ _ _ C.ow (by simp) C.JS).2,fun i n hn=>?_,fun i n hn hl=>?_,C.Wn.step (r _ (by simp)),C.Vn.step (r _ (by simp)),(k _ _ _ C.om (by simp) C.J3).1,C.Vo,(k _ _ _ C.om (by simp) C.J3).2,fun i hi=>?_,C.V8⟩
 ·obtain ⟨h1,h2⟩:=C.Zy i n hn
  exact k _ _ _ h2 (by simp) h1
 ·obtain ⟨kk,h1,h2⟩:=C.K5 i n hn hl
  exact ⟨kk,h1,h2.step (r _ (by simp))⟩
 ·by_cases e:i=id
  ·subst e
   dsimp only
   rw[if_pos rfl]
   exact T'.mono fun l hl=>MB l hl
  ·dsimp only
   rw[if_neg e]
   exact (C.kids i hi).step (r _ (by simpa using e))
theorem Q4.lv {B:List It} (T':Kr (more (fun l=>own l=.lv) h) h' L.v B) (s:Step (fun l=>own l=.lv) h h'):Q4 (Zg own h .lv) h' p L { M with Lv:=B }:=by
 have r:=C.rest s
 have k:∀ l o t,own l=t→t≠.lv→h[l]? = some o→h'[l]? = some o∧Zg own h .lv l=t:=fun l o t h1 h2 h3=>by
  obtain ⟨a,b⟩:=r t h2 l (Qd h3) h1
  exact ⟨b.trans h3,a⟩
 refine ⟨(k _ _ _ C.op (by simp) C.ob).1,(k _ _ _ C.op (by simp) C.ob).2,C.tr.step (r _ (by simp)),(k _ _ _ C.ow (by simp) C.JS).1,C.Wm,(k _ _ _ C.ow (by simp) C.JS).2,fun i n hn=>?_,fun i n hn hl=>?_,C.Wn.step (r _ (by simp)),T'.mono fun l hl=>MB l hl,(k _ _ _ C.om (by simp) C.J3).1,C.Vo,(k _ _ _ C.om (by simp) C.J3).2,fun i hi=>(C.kids i hi).step (r _ (by simp)),C.V8⟩
 ·obtain ⟨h1,h2⟩:=C.Zy i n hn
  exact k _ _ _ h2 (by simp) h1
 ·obtain ⟨kk,h1,h2⟩:=C.K5 i n hn hl
  exact ⟨kk,h1,h2.step (r _ (by simp))⟩
theorem Q4.act {A':List Int} (T':W6 (more (fun l=>own l=.on) h) h' L.o M.To A') (s:Step (fun l=>own l=.on) h h'):Q4 (Zg own h .on) h' p L { M with A:=A' }:=by
 have r:=C.rest s
 have k:∀ l o t,own l=t→t≠.on→h[l]? = some o→h'[l]? = some o∧Zg own h .on l=t:=fun l o t h1 h2 h3=>by
  obtain ⟨a,b⟩:=r t h2 l (Qd h3) h1
  exact ⟨b.trans h3,a⟩
 refine ⟨(k _ _ _ C.op (by simp) C.ob).1,(k _ _ _ C.op (by simp) C.ob).2,C.tr.step (r _ (by simp)),(k _ _ _ C.ow (by simp) C.JS).1,C.Wm,(k _ _ _ C.ow (by simp) C.JS).2,fun i n hn=>?_,fun i n hn hl=>?_,T'.step fun l _ hl=>⟨MB l hl,rfl⟩,C.Vn.step (r _ (by simp)),(k _ _ _ C.om (by simp) C.J3).1,C.Vo,(k _ _ _ C.om (by simp) C.J3).2,fun i hi=>(C.kids i hi).step (r _ (by simp)),C.V8⟩
 ·obtain ⟨h1,h2⟩:=C.Zy i n hn
  exact k _ _ _ h2 (by simp) h1
 ·obtain ⟨kk,h1,h2⟩:=C.K5 i n hn hl
  exact ⟨kk,h1,h2.step (r _ (by simp))⟩
end
theorem Q6.SD {own:Nat→Tag} {h:List Ob} {own':Nat→Tag} {H:List Ob} (D:Q6 own h own' H) {l:Nat} (hl:h.length≤l) (o:Ob):Q6 own h own' (H.set l o):=⟨D.same,fun j h1 h2=>by rw[Qt (by omega)];exact D.keep j h1 h2,by simpa using D.len⟩
def Ka (N:List Nd) (id:Int) (f:Nd→Nd):List Nd:=N.map fun n=>if n.c.iD=id then f n else n
theorem Wo {N:List Nd} {id:Int} {f:Nd→Nd} (hf:∀ n,(f n).c.iD=n.c.iD) (j:Int):Qh (Ka N id f) j=if j=id then (Qh N j).map f else Qh N j:=by
 unfold Qh Ka
 rw[List.find?_map]
 have e:((fun n:Nd=>n.c.iD == j) ∘ fun n=>if n.c.iD=id then f n else n)=fun n=>n.c.iD == j:=by
  funext n
  simp only[Function.comp_apply]
  split <;> simp [hf]
 rw[e]
 by_cases hj:j=id
 ·subst hj
  rw[if_pos rfl]
  cases hq:N.find? fun n=>n.c.iD == j with
  | none=>rfl
  | some n=>
   have:=List.find?_some hq
   simp only[beq_iff_eq] at this
   simp [this]
 ·rw[if_neg hj]
  cases hq:N.find? fun n=>n.c.iD == j with
  | none=>rfl
  | some n=>
   have:=List.find?_some hq
   simp only[beq_iff_eq] at this
   simp only[Option.map_some]
   rw[if_neg (by rw[this];exact hj)]
section
variable {own:Nat→Tag} {h:List Ob} {p:Nat} {L:Loc} {M:Qj} (C:Q4 own h p L M)
include C
theorem Q4.YZ {id:Int} {n:Nd} (hn:Qh M.N id=some n) (f:Nd→Nd) (hc:∀ n,(f n).c=n.c) (hq:∀ n,(f n).q=n.q) (KE:(f n).Ok):Q4 own (h.set (L.le id) (VS (qD L.lq n) (f n))) p L { M with N:=Ka M.N id f }:=by
 obtain ⟨e1,e2⟩:=C.Zy id n hn
 have QD:∀ l o t,own l=t→t≠.YZ id→h[l]? = some o→(h.set (L.le id) (VS (qD L.lq n) (f n)))[l]? = some o:=fun l o t h1 h2 h3=>by
  rw[Qt (fun e=>h2 (by rw[← h1,← e,e2]))];exact h3
 have r:∀ t,t≠.YZ id→∀ l,l<h.length→own l=t→own l=t∧(h.set (L.le id) (VS (qD L.lq n) (f n)))[l]? = h[l]? := fun t ht l hl h1=>⟨h1,Qt (fun e=>ht (by rw[← h1,← e,e2]))⟩
 have QX:∀ n,(f n).c.iD=n.c.iD:=fun n=>by rw[hc]
 have xm:=Wo (N:=M.N) (id:=id) QX
 refine ⟨QD _ _ _ C.op (by simp) C.ob,C.op,C.tr.step (r _ (by simp)),QD _ _ _ C.ow (by simp) C.JS,C.Wm.to fun j=>?_,C.ow,fun j m hm=>?_,fun j m hm hl=>?_,C.Wn.step (r _ (by simp)),C.Vn.step (r _ (by simp)),QD _ _ _ C.om (by simp) C.J3,C.Vo,C.om,fun j hj=>(C.kids j hj).step (r _ (by simp)),fun j m hm=>?_⟩
 ·dsimp only
  rw[xm]
  split
  ·cases Qh M.N j <;> rfl
  ·rfl
 ·dsimp only at hm
  rw[xm] at hm
  by_cases hj:j=id
  ·subst hj
   rw[if_pos rfl,hn,Option.map_some] at hm
   cases hm
   refine ⟨?_,e2⟩
   rw[Qw (Qd e1)]
   unfold qD
   rw[hc]
  ·rw[if_neg hj] at hm
   obtain ⟨g1,g2⟩:=C.Zy j m hm
   exact ⟨QD _ _ _ g2 (by simpa using hj) g1,g2⟩
 ·dsimp only at hm
  rw[xm] at hm
  by_cases hj:j=id
  ·subst hj
   rw[if_pos rfl,hn,Option.map_some] at hm
   cases hm
   rw[hc] at hl ⊢
   rw[hq]
   obtain ⟨kk,g1,g2⟩:=C.K5 j n hn hl
   exact ⟨kk,g1,g2.step (r _ (by simp))⟩
  ·rw[if_neg hj] at hm
   obtain ⟨kk,g1,g2⟩:=C.K5 j m hm hl
   exact ⟨kk,g1,g2.step (r _ (by simp))⟩
 ·dsimp only at hm
  rw[xm] at hm
  by_cases hj:j=id
  ·subst hj
   rw[if_pos rfl,hn,Option.map_some] at hm
   cases hm
   exact KE
  ·rw[if_neg hj] at hm
   exact C.V8 j m hm
theorem Q4.Wl {h':List Ob} {id:Int} {n:Nd} (hn:Qh M.N id=some n) (hl:n.c.leaf=true) {k:Nat} (hk:n.c.Za=k) {q':Qu} (Q:YA (fun l=>own l=.Wl id) h' (L.lq id) k n.c.bytes q') (s:Step (fun l=>own l=.Wl id) h h'):Q4 (Zg own h (.Wl id)) h' p L { M with N:=Ka M.N id fun n=>{ n with q:=q' } }:=by
 have r:=C.rest s
 have kk:∀ l o t,own l=t→t≠.Wl id→h[l]? = some o→h'[l]? = some o∧Zg own h (.Wl id) l=t:=fun l o t h1 h2 h3=>by
  obtain ⟨a,b⟩:=r t h2 l (Qd h3) h1
  exact ⟨b.trans h3,a⟩
 have xm:=Wo (N:=M.N) (id:=id) (f:=fun n=>{ n with q:=q' }) (fun _=>rfl)
 refine ⟨(kk _ _ _ C.op (by simp) C.ob).1,(kk _ _ _ C.op (by simp) C.ob).2,C.tr.step (r _ (by simp)),(kk _ _ _ C.ow (by simp) C.JS).1,C.Wm.to fun j=>?_,(kk _ _ _ C.ow (by simp) C.JS).2,fun j m hm=>?_,fun j m hm Gu=>?_,C.Wn.step (r _ (by simp)),C.Vn.step (r _ (by simp)),(kk _ _ _ C.om (by simp) C.J3).1,C.Vo,(kk _ _ _ C.om (by simp) C.J3).2,fun j hj=>(C.kids j hj).step (r _ (by simp)),fun j m hm=>?_⟩
 ·dsimp only
  rw[xm]
  split
  ·cases Qh M.N j <;> rfl
  ·rfl
 ·dsimp only at hm
  rw[xm] at hm
  by_cases hj:j=id
  ·subst hj
   rw[if_pos rfl,hn,Option.map_some] at hm
   cases hm
   obtain ⟨g1,g2⟩:=C.Zy j n hn
   exact kk _ _ _ g2 (by simp) g1
  ·rw[if_neg hj] at hm
   obtain ⟨g1,g2⟩:=C.Zy j m hm
   exact kk _ _ _ g2 (by simp) g1
 ·dsimp only at hm
  rw[xm] at hm
  by_cases hj:j=id
  ·subst hj
   rw[if_pos rfl,hn,Option.map_some] at hm
   cases hm
   exact ⟨k,hk,Q.step fun l _ h1=>⟨MB l (.inl h1),rfl⟩⟩
  ·rw[if_neg hj] at hm
   obtain ⟨kk2,g1,g2⟩:=C.K5 j m hm Gu
   exact ⟨kk2,g1,g2.step (r _ (by simpa using hj))⟩
 ·dsimp only at hm
  rw[xm] at hm
  by_cases hj:j=id
  ·subst hj
   rw[if_pos rfl,hn,Option.map_some] at hm
   cases hm
   have:=C.V8 j n hn
   exact ⟨this.ZV,this.du,this.sh,this.cp,this.c⟩
  ·rw[if_neg hj] at hm
   exact C.V8 j m hm
theorem Q4.Zx (c a:Nat):Q4 own (h.set p (XD M.lk L.t L.b L.o L.v L.m c a)) p L { M with Zx:=c,acc:=a }:=by
 have QD:∀ l o t,own l=t→t≠.sc→h[l]? = some o→(h.set p (XD M.lk L.t L.b L.o L.v L.m c a))[l]? = some o:=fun l o t h1 h2 h3=>by
  rw[Qt (fun e=>h2 (by rw[← h1,← e,C.op]))];exact h3
 have r:∀ t,t≠.sc→∀ l,l<h.length→own l=t→own l=t∧(h.set p (XD M.lk L.t L.b L.o L.v L.m c a))[l]? = h[l]? := fun t ht l hl h1=>⟨h1,Qt (fun e=>ht (by rw[← h1,← e,C.op]))⟩
 refine ⟨Qw (Qd C.ob),C.op,C.tr.step (r _ (by simp)),QD _ _ _ C.ow (by simp) C.JS,C.Wm,C.ow,fun j m hm=>?_,fun j m hm hl=>?_,C.Wn.step (r _ (by simp)),C.Vn.step (r _ (by simp)),QD _ _ _ C.om (by simp) C.J3,C.Vo,C.om,fun j hj=>(C.kids j hj).step (r _ (by simp)),C.V8⟩
 ·obtain ⟨g1,g2⟩:=C.Zy j m hm
  exact ⟨QD _ _ _ g2 (by simp) g1,g2⟩
 ·obtain ⟨kk,g1,g2⟩:=C.K5 j m hm hl
  exact ⟨kk,g1,g2.step (r _ (by simp))⟩
end
structure Qy (M:Qj):Prop where
 tree:JA M.T
 vA:qn M.T
 to:M.To=M.T
 nodes:M.T=M.N.map (·.c)
 Wp:qK M.T M.A
 ks:∀ id,M.ks id=true↔id=0∨∃ n,Qh M.N id=some n∧n.c.leaf=false
 zU:∀ x∈M.Lv,(Qr M.T x.ki).isSome=true
 Ya:∀ id,∀ x∈M.KT id,∃ c,Qr M.T x.ki=some c∧c.parent=id
 YG:∀ id,∀ x∈M.KT id,x.ka≤18446744073709551615
 Zx:M.Zx≤4611686018427387904
 acc:M.acc≤1099511627776
theorem SE (N:List Nd) (id:Int):Qr (N.map (·.c)) id=(Qh N id).map (·.c):=by
 unfold Qr Qh
 rw[List.find?_map]
 rfl
section
variable {M:Qj} (I:Qy M)
include I
theorem Qy.find (id:Int):Qr M.T id=(Qh M.N id).map (·.c):=by rw[I.nodes,SE]
theorem Qy.SF (id:Int):∀ x∈M.KT id,(Qr M.T x.ki).isSome=true:=fun x hx=>by
 obtain ⟨c,hc,_⟩:=I.Ya id x hx
 rw[hc];rfl
theorem Qy.some {id:Int} {n:Nd} (h:Qh M.N id=some n):Qr M.T id=Option.some n.c:=by rw[I.find,h];rfl
omit I in
theorem Qy.id {id:Int} {n:Nd} (h:Qh M.N id=Option.some n):n.c.iD=id:=by
 have:=List.find?_some h
 simpa using this
theorem Qy.MC {id:Int} {n:Nd} (h:Qh M.N id=Option.some n):id≠0:=fun e=>by
 have:=I.some h
 rw[e,AT I.tree] at this
 cases this
theorem Qy.MD {id:Int} {c:Qi} (h:Qr M.T id=Option.some c):∃ n,Qh M.N id=Option.some n∧n.c=c:=by
 rw[I.find] at h
 cases hn:Qh M.N id with
 | none=>rw[hn] at h;cases h
 | some n=>rw[hn] at h;exact ⟨n,rfl,Option.some.inj h⟩
end
theorem Kr.nd {S:Nat→Prop} {h:List Ob} {p:Nat} {L:List It}:Kr S h p L→(L.map It.ki).Nodup:=fun ⟨a,m,t,c,es,T⟩=>T.ids
theorem GD {T:List Qi} (I:JA T) {L:List It} (hn:(L.map It.ki).Nodup) (hs:∀ x∈L,(Qr T x.ki).isSome=true):L.length≤64:=by
 have h1:(L.map It.ki).length≤(T.map (·.iD)).length:=by
  refine List.Nodup.length_le_of_subset hn fun i hi=>?_
  obtain ⟨x,hx,rfl⟩:=List.mem_map.1 hi
  obtain ⟨c,hc⟩:=Option.isSome_iff_exists.1 (hs x hx)
  exact List.mem_map.2 ⟨c,qJ I hc,QjI I hc⟩
 have:=I.len
 simp only[List.length_map] at h1
 omega
def ZW (M:Qj) (id:Int):Bool:=Zu M.T M.A id
def WN (M:Qj) (id:Int) (n:Nd):Nat:=if n.c.leaf=true∨ZW M id=false then n.cp.fit else max n.cp.fit (Bb (M.KT id))
section
variable {own:Nat→Tag} {h:List Ob} {p:Nat} {L:Loc} {M:Qj} (C:Q4 own h p L M) (I:Qy M)
include C I
omit I in
theorem Q4.look {id:Int} {n:Nd} (hn:Qh M.N id=some n):JE L.eb id=some (.ptr (L.le id) 0 0 0):=by
 have:=C.Wm.at_ id
 rw[hn] at this
 exact this
theorem Q4.ME:A4 h L.o M.T M.A:=by
 have:=C.Wn.toR
 rwa [I.to] at this
theorem QnV {id:Int} {n:Nd} (hn:Qh M.N id=some n):QQ Tryz.prog 64 h [.ptr p 0 0 0,.ptr (L.le id) 0 0 0] (fun d=>d=u64 (WN M id n)):=by
 have ho:=Zv C.ob
 have he:=Zv (C.Zy id n hn).1
 have hm:=Zv C.J3
 have QX:=Qy.id hn
 have wh:=Da (C.ME I) I.tree I.Wp id (I.MC hn)
 unfold WN
 cases hl:n.c.leaf with
 | true=>
  rw[if_pos (.inl rfl)]
  refine Zh Qe 200 Tryz.func64 rfl Tryz.ntmps64 Tryz.results64 rfl fun base w pl F hF QR hb=>?_
  rw[← hF] at ho he
  have Qf:=Qd ho
  have ZS:=Qd he
  simp only[go_sem,simprocAttr,Qa,ho,Qf,he,ZS]
  refine QA Qe hb 200 mixed [(0,true),(1,true),(2,true),(3,true),(4,true),(5,true),(6,true),(7,true),(8,true),(9,true),(10,true),(11,true),(12,true),(13,true),(14,true),(15,false),(16,true),(17,true)] (by kernel_rfl) (by kernel_rfl) ?_
  simp only[go_sem,simprocAttr,Qa,ho,Qf,he,ZS,hl,Go.undef]
  all_goals first | exact ⟨_,rfl,rfl⟩ | exact ⟨_,rfl⟩ | rfl | exact ⟨[],(List.append_nil _).symm⟩ | exact ⟨[],(List.append_nil _).symm,rfl⟩
 | false=>
  have XE:M.ks id=true:=(I.ks id).2 (.inr ⟨n,hn,hl⟩)
  have Xb:=C.Vo.at_ id
  rw[if_pos XE] at Xb
  have hT:=(C.kids id XE).toR
  have qa:Zu M.T M.A id=ZW M id:=rfl
  rw[qa] at wh
  cases ha:ZW M id with
  | false=>
   rw[ha] at wh
   rw[if_pos (.inr rfl)]
   refine Zh Qe 200 Tryz.func64 rfl Tryz.ntmps64 Tryz.results64 rfl fun base w pl F hF QR hb=>?_
   rw[← hF] at ho he
   have Qf:=Qd ho
   have ZS:=Qd he
   simp only[go_sem,simprocAttr,Qa,ho,Qf,he,ZS]
   refine QA Qe hb 200 mixed [(0,true),(1,true),(2,true),(3,true),(4,true),(5,true),(6,true),(7,true),(8,true),(9,true),(10,true),(11,true),(12,true),(13,true),(14,true),(15,false),(16,true),(17,true)] (by kernel_rfl) (by kernel_rfl) ?_
   simp only[go_sem,simprocAttr,Qa,ho,Qf,he,ZS,hl,Go.undef]
   have yM:Zu M.T M.A id=false:=ha
   refine Ju hb Ft rfl ?_ (Da ((C.ME I).more (JM hF)) I.tree I.Wp id (I.MC hn)) rfl fun d hR=>?_
   ·simp only[go_sem,simprocAttr,Qa,ho,Qf,he,ZS,hl,Go.undef,QX,yM]
   subst hR
   refine QF hb ?_
   simp only[go_sem,simprocAttr,Qa,ho,Qf,he,ZS,hl,Go.undef,QX,yM]
   all_goals first | exact ⟨_,rfl,rfl⟩ | exact ⟨_,rfl⟩ | rfl | exact ⟨[],(List.append_nil _).symm⟩ | exact ⟨[],(List.append_nil _).symm,rfl⟩
  | true=>
   rw[ha] at wh
   rw[if_neg (by simp)]
   have yM:Zu M.T M.A id=true:=ha
   refine Zh Qe 200 Tryz.func64 rfl Tryz.ntmps64 Tryz.results64 rfl fun base w pl F hF QR hb=>?_
   rw[← hF] at ho he hm
   have Qf:=Qd ho
   have ZS:=Qd he
   have QP:=Qd hm
   simp only[go_sem,simprocAttr,Qa,ho,Qf,he,ZS,hm,QP]
   refine QA Qe hb 200 mixed [(0,true),(1,true),(2,true),(3,true),(4,true),(5,true),(6,true),(7,true),(8,true),(9,true),(10,true),(11,true),(12,true),(13,true),(14,true),(15,false),(16,true),(17,true)] (by kernel_rfl) (by kernel_rfl) ?_
   simp only[go_sem,simprocAttr,Qa,ho,Qf,he,ZS,hl,Go.undef]
   refine Ju hb Ft rfl ?_ (Da ((C.ME I).more (JM hF)) I.tree I.Wp id (I.MC hn)) rfl fun d hR=>?_
   ·simp only[go_sem,simprocAttr,Qa,ho,Qf,he,ZS,hl,Go.undef,QX,yM]
   subst hR
   refine QF hb ?_
   simp only[go_sem,simprocAttr,Qa,ho,Qf,he,ZS,hl,Go.undef,QX,yM]
   refine QA Qe hb 200 mixed [(0,true),(1,true),(2,true),(3,true),(4,true),(5,true),(6,true),(7,true),(8,true),(9,true),(10,true),(11,true),(12,true),(13,true),(14,true),(15,false),(16,false),(17,true)] (by kernel_rfl) (by kernel_rfl) ?_
   simp only[go_sem,simprocAttr,Qa,ho,Qf,he,ZS,hm,QP,Xb,QX]
   refine Ju hb lV rfl ?_ (oI (hT.more (JM hF)) (I.YG id)) rfl fun d hR=>?_
   ·simp only[go_sem,simprocAttr,Qa,ho,Qf,he,ZS,hm,QP]
   subst hR
   refine QF hb ?_
   simp only[go_sem,simprocAttr,Qa,ho,Qf,he,ZS,hm,QP]
   refine Zo hb Qiq rfl ?_ (QlT n.cp.fit (Bb (M.KT id))) (Qm.flat rfl) rfl fun d h hR=>?_
   ·simp only[go_sem,simprocAttr,Qa]
   obtain ⟨rfl,rfl⟩:=hR
   refine QF hb ?_
   simp only[go_sem,simprocAttr,Qa]
   all_goals first | exact ⟨_,rfl,rfl⟩ | exact ⟨_,rfl⟩ | rfl | exact ⟨[],(List.append_nil _).symm⟩ | exact ⟨[],(List.append_nil _).symm,rfl⟩
end
def QC (M:Qj) (id:Int):Nd:=(Qh M.N id).getD default
def Jo (M:Qj) (id:Int):Qj:=
 if ZW M id=true then { M with KT:=fun j=>if j=(QC M id).c.parent then Vv id (QC M id).sh.time (WN M id (QC M id)) (M.KT (QC M id).c.parent) else M.KT j } else M
def JT (M:Qj):List Int→Qj
 | []=>M
 | id::r=>JT (Jo M id) r
theorem rV (M:Qj):∀ (l r:List Int),JT M (l++r)=JT (JT M l) r
 | [],r=>rfl
 | id::l,r=>rV (Jo M id) l r
theorem GF (M:Qj) (id:Int):(Jo M id).N=M.N∧(Jo M id).T=M.T∧(Jo M id).To=M.To∧(Jo M id).A=M.A∧(Jo M id).Lv=M.Lv∧(Jo M id).ks=M.ks∧(Jo M id).Zx=M.Zx∧(Jo M id).acc=M.acc∧(Jo M id).lk=M.lk:=by
 unfold Jo;split <;> exact ⟨rfl,rfl,rfl,rfl,rfl,rfl,rfl,rfl,rfl⟩
theorem SG:∀ (l:List Int) (M:Qj),(JT M l).N=M.N∧(JT M l).T=M.T∧(JT M l).To=M.To∧(JT M l).A=M.A∧(JT M l).Lv=M.Lv∧(JT M l).ks=M.ks∧(JT M l).Zx=M.Zx∧(JT M l).acc=M.acc∧(JT M l).lk=M.lk
 | [],M=>⟨rfl,rfl,rfl,rfl,rfl,rfl,rfl,rfl,rfl⟩
 | id::l,M=>by
  obtain ⟨a1,a2,a3,a4,a5,a6,a7,a8,a9⟩:=SG l (Jo M id)
  obtain ⟨b1,b2,b3,b4,b5,b6,b7,b8,b9⟩:=GF M id
  exact ⟨a1.trans b1,a2.trans b2,a3.trans b3,a4.trans b4,a5.trans b5,a6.trans b6,a7.trans b7,a8.trans b8,a9.trans b9⟩
theorem rW {M:Qj} (I:Qy M) {id:Int} {n:Nd} (hn:Qh M.N id=some n) (KE:n.Ok):Qy (Jo M id):=by
 obtain ⟨b1,b2,b3,b4,b5,b6,b7,b8,b9⟩:=GF M id
 have ZI:QC M id=n:=by unfold QC;rw[hn];rfl
 refine ⟨by rw[b2];exact I.tree,by rw[b2];exact I.vA,by rw[b2,b3];exact I.to,by rw[b2,b1];exact I.nodes,by rw[b2,b4];exact I.Wp,by rw[b6,b1];exact I.ks,by rw[b5,b2];exact I.zU,fun j x hx=>?_,fun j x hx=>?_,by rw[b7];exact I.Zx,by rw[b8];exact I.acc⟩
 ·rw[b2]
  unfold Jo at hx
  split at hx
  ·dsimp only at hx
   split at hx
   ·rename_i hj
    subst hj
    rcases yw.1 hx with rfl | hx
    ·exact ⟨n.c,I.some hn,by rw[ZI]⟩
    ·exact I.Ya _ x (List.mem_filter.1 hx).1
   ·exact I.Ya _ x hx
  ·exact I.Ya _ x hx
 ·unfold Jo at hx
  split at hx
  ·dsimp only at hx
   split at hx
   ·rcases yw.1 hx with rfl | hx
    ·rw[ZI]
     have:=KE.sh.time
     show n.sh.time≤_
     omega
    ·exact I.YG _ x (List.mem_filter.1 hx).1
   ·exact I.YG _ x hx
  ·exact I.YG _ x hx
structure DG (own:Nat→Tag) (h:List Ob) (p:Nat) (L:Loc) (M:Qj) (U:List Int) (k:Nat) (s:St):Prop where
 ex:∃ own' H,Q4 own' H p L (JT M (U.take k))∧Qy (JT M (U.take k))∧Q6 own h own' H∧s=⟨[(0,.ptr p 0 0 0),(12,ints U),(13,Qb U.length),(14,Qb k)],H⟩
theorem DG.of {own:Nat→Tag} {h:List Ob} {p:Nat} {L:Loc} {M:Qj} {U:List Int} {k:Nat} {own':Nat→Tag} {H:List Ob} (C:Q4 own' H p L (JT M (U.take k))) (I:Qy (JT M (U.take k))) (D:Q6 own h own' H):DG own h p L M U k ⟨[(0,.ptr p 0 0 0),(12,ints U),(13,Qb U.length),(14,Qb k)],H⟩:=⟨⟨own',H,C,I,D,rfl⟩⟩
theorem SH {M:Qj} (I:Qy M) {id:Int} {n:Nd} (hn:Qh M.N id=some n):M.ks n.c.parent=true:=by
 rw[I.ks]
 by_cases h0:n.c.parent=0
 ·exact .inl h0
 ·obtain ⟨d,hd,hl⟩:=I.tree.Xn n.c (qJ I.tree (I.some hn)) h0
  obtain ⟨m,hm,rfl⟩:=I.MD hd
  exact .inr ⟨m,hm,hl⟩
theorem SI {own:Nat→Tag} {h:List Ob} {p:Nat} {L:Loc} {M:Qj} (C:Q4 own h p L M) (I:Qy M) (leaf:Int):QG Tryz.prog 43 h [.ptr p 0 0 0,Qb leaf] (fun d h'=>∃ own',Q4 own' h' p L (JT M (up M.T leaf))∧Qy (JT M (up M.T leaf))∧Q6 own h own' h'):=by
 have ho:=C.ob
 have MF:(up M.T leaf).length≤16:=kY
 refine QW Qe 200 Tryz.func43 rfl Tryz.ntmps43 Tryz.results43 rfl fun base w pl hb=>?_
 have Qf:=Qd ho
 simp only[go_sem,simprocAttr,Qa,ho,Qf]
 refine QL hb Lb rfl ?_ (P5 C.tr.toR I.tree.toTreeInv leaf) rfl fun d hR=>?_
 ·simp only[go_sem,simprocAttr,Qa,ho,Qf]
 subst hR
 refine Qc hb ?_
 simp only[go_sem,simprocAttr,Qa,ho,Qf]
 obtain ⟨U,hU⟩:∃ U,U=up M.T leaf:=⟨_,rfl⟩
 rw[show ZG M.T 16 leaf=U from hU.symm]
 rw[← hU] at MF ⊢
 refine ZB (DG own h p L M U) U.length (Ql.frame (by simp only[go_sem,simprocAttr])) (DG.of (k:=0) C I (Q6.refl own h)) ?_
 rintro k _ hk ⟨own',H,Ck,Ik,Dk,rfl⟩
 by_cases Qq:k<U.length
 ·have dk:=decide_eq_true Qq
  obtain ⟨id,QX⟩:∃ id,id=U.getD k 0:=⟨_,rfl⟩
  have QnW:id∈up M.T leaf:=by rw[QX,← hU];exact yl U 0 k Qq
  obtain ⟨e1,e2,e3,e4,e5,e6,e7,e8,e9⟩:=SG (U.take k) M
  have VE:=AU QnW
  have Zt:JT M (U.take (k+1))=Jo (JT M (U.take k)) id:=by
   rw[getD_take U 0 k Qq,rV,← QX];rfl
  obtain ⟨Mk,xn⟩:∃ Mk,Mk=JT M (U.take k):=⟨_,rfl⟩
  rw[← xn] at Ck Ik e1 e2 e3 e4 e5 e6 e7 e8 e9 Zt
  obtain ⟨n,hn⟩:∃ n,Qh Mk.N id=some n:=by
   rw[← e2,Ik.find] at VE
   cases hq:Qh Mk.N id with
   | none=>rw[hq] at VE;cases VE
   | some n=>exact ⟨n,rfl⟩
  have ZI:QC Mk id=n:=by unfold QC;rw[hn];rfl
  have YF:=Ck.look hn
  have ho:=Ck.ob
  have Qf:=Qd ho
  have Q9:=Ck.JS
  have Y7:=Qd Q9
  obtain ⟨he,_⟩:=Ck.Zy id n hn
  have ZS:=Qd he
  have hm:=Ck.J3
  have QP:=Qd hm
  have XE:=SH Ik hn
  have Xb:=Ck.Vo.at_ n.c.parent
  rw[if_pos XE] at Xb
  have Zl:=KG (show k<4611686018427387904 by omega)
  refine Qc hb ?_
  simp only[go_sem,simprocAttr,Qa,dk,Qq,← QX,ho,Qf,Q9,Y7,YF]
  refine QL hb Ft rfl ?_ (Da (Ck.ME Ik) Ik.tree Ik.Wp id (Ik.MC hn)) rfl fun d hR=>?_
  ·simp only[go_sem,simprocAttr,Qa,ho,Qf]
  subst hR
  refine Qc hb ?_
  simp only[go_sem,simprocAttr,Qa,ho,Qf]
  cases ha:Zu Mk.T Mk.A id with
  | false=>
   have SJ:Jo Mk id=Mk:=by unfold Jo;rw[if_neg (by unfold ZW;rw[ha];decide)]
   rw[SJ] at Zt
   simp only[go_sem,simprocAttr,Qa]
   exact ⟨Qq,_,Ql.frame (by simp only[go_sem,simprocAttr,Zl]),DG.of (by rw[Zt];exact Ck) (by rw[Zt];exact Ik) Dk⟩
  | true=>
   have WW:Jo Mk id={ Mk with KT:=fun j=>if j=n.c.parent then Vv id n.sh.time (WN Mk id n) (Mk.KT n.c.parent) else Mk.KT j }:=by
    unfold Jo;rw[if_pos (show ZW Mk id=true from ha),ZI]
   have hT:=Ck.kids _ XE
   have DH:=Qy.id hn
   have AS:=GD Ik.tree hT.nd (Ik.SF _)
   simp only[go_sem,simprocAttr,Qa]
   refine VY [19] Qe hb 200 mixed [(0,true),(1,true),(2,true),(3,true),(4,true),(5,true),(6,true),(7,true),(8,true),(9,true),(10,true),(11,true),(12,true),(13,true),(14,true),(15,true),(16,true),(17,true),(18,false),(19,false)] [] (by kernel_rfl) (by kernel_rfl) ?_
   simp only[go_sem,simprocAttr,Qa,ho,Qf,he,ZS,hm,QP,Xb]
   refine Ju hb Qh0 rfl ?_ (QnV Ck Ik hn) rfl fun d hR=>?_
   ·simp only[go_sem,simprocAttr,Qa,ho,Qf]
   subst hR
   refine QF hb ?_
   simp only[go_sem,simprocAttr,Qa,ho,Qf]
   refine Wf hb Qh9 rfl ?_ (QkO hT id n.sh.time (WN Mk id n) (by omega)) rfl fun d h8 hR=>?_
   ·simp only[go_sem,simprocAttr]
   obtain ⟨T8,s8⟩:=hR
   have C8:=Ck.Vm _ XE T8 s8
   refine QF hb ?_
   simp only[go_sem,simprocAttr,Qa]
   rw[WW] at Zt
   exact ⟨Qq,_,Ql.frame (by simp only[go_sem,simprocAttr,Zl]),DG.of (by rw[Zt];exact C8) (by rw[Zt,← WW];exact rW Ik hn (Ck.V8 id n hn)) (Dk.trans (Q6.of (by simp) s8))⟩
 ·have Z1:k=U.length:=by omega
  have dk:=decide_eq_false Qq
  rw[Z1,List.take_length] at Ck Ik
  refine Qc hb ?_
  simp only[go_sem,simprocAttr,Qa,dk]
  exact ⟨own',Ck,Ik,Dk⟩
def j8 (M:Qj) (now:Nat):Bool:=!(decide (now<M.Zx) || decide (4611686018427387904<now))
def Zq (M:Qj) (now:Nat):Qj:=if j8 M now=true then { M with Zx:=now } else M
section
variable {own:Nat→Tag} {h:List Ob} {p:Nat} {L:Loc} {M:Qj} (C:Q4 own h p L M)
include C
theorem rX (now:Nat):QG Tryz.prog 34 h [.ptr p 0 0 0,u64 now] (fun d h'=>d=QN (j8 M now)∧Q4 own h' p L (Zq M now)∧Q6 own h own h'):=by
 have ho:=C.ob
 unfold Zq j8
 by_cases h1:now<M.Zx
 ·have d1:=decide_eq_true h1
  refine QW Qe 200 Tryz.func34 rfl Tryz.ntmps34 Tryz.results34 rfl fun base w pl hb=>?_
  have Qf:=Qd ho
  simp only[go_sem,simprocAttr,Qa,ho,Qf,d1,Go.undef]
  exact ⟨by simpa using C,Q6.refl own h⟩
 ·have d1:=decide_eq_false h1
  by_cases h2:4611686018427387904<now
  ·have d2:decide ((4611686018427387904:Int)<(now:Int))=true:=decide_eq_true (by omega)
   have d3:=decide_eq_true h2
   refine QW Qe 200 Tryz.func34 rfl Tryz.ntmps34 Tryz.results34 rfl fun base w pl hb=>?_
   have Qf:=Qd ho
   simp only[go_sem,simprocAttr,Qa,ho,Qf,d1,d2,d3,Go.undef]
   exact ⟨by simpa using C,Q6.refl own h⟩
  ·have d2:decide ((4611686018427387904:Int)<(now:Int))=false:=decide_eq_false (by omega)
   have d3:=decide_eq_false h2
   refine QW Qe 200 Tryz.func34 rfl Tryz.ntmps34 Tryz.results34 rfl fun base w pl hb=>?_
   have Qf:=Qd ho
   simp only[go_sem,simprocAttr,Qa,ho,Qf,d1,d2,d3,Go.undef]
   exact ⟨C.Zx now M.acc,Q6.set _ (by rw[C.op];decide)⟩
end
def WO (n:Nd) (ZR:Int) (qp:Bool):Du:=if qp then Md n.du ZR (zO n.q) else jT n.du (zO n.q)
def Vy (M:Qj) (id:Int) (ZR:Int) (qp:Bool):Qj:=
 if 1<QH (QC M id).c.rt then { M with
   N:=Ka M.N id fun n=>{ n with du:=WO (QC M id) ZR qp }
   Lv:=if (QC M id).q.l=[] then JC id (Vv id (WO (QC M id) ZR qp).Vw (WO (QC M id) ZR qp).dead M.Lv) else Vv id (WO (QC M id) ZR qp).Vw (WO (QC M id) ZR qp).dead M.Lv }
 else M
theorem rY {n:Nd} (h:n.Ok) (ZR:Int) (qp:Bool):(WO n ZR qp).Ok:=by
 unfold WO
 split
 ·exact RG (l:={ n.du with ZK:=Vj (n.du.ZK+ZR.toNat) }) h.du.dl h.du.rd (Bh _) _
 ·exact RG h.du.dl h.du.rd h.du.ZK _
section
variable {own:Nat→Tag} {h:List Ob} {p:Nat} {L:Loc} {M:Qj} (C:Q4 own h p L M) (I:Qy M)
include C I
theorem QnX {id:Int} {n:Nd} (hn:Qh M.N id=some n) (hl:n.c.leaf=true) (ZR:Int) (VP:0≤ZR) (Zf:ZR<9223372036854775808) (qp:Bool) :
  QG Tryz.prog 40 h [.ptr p 0 0 0,.ptr (L.le id) 0 0 0,Qb ZR,QN qp] (fun d h'=>∃ own',Q4 own' h' p L (Vy M id ZR qp)∧Q6 own h own' h'):=by
 have ho:=C.ob
 have he:=(C.Zy id n hn).1
 have QX:=Qy.id hn
 have ZI:QC M id=n:=by unfold QC;rw[hn];rfl
 have KE:=C.V8 id n hn
 have DI:=KE.du
 obtain ⟨kq,Bw,hQ⟩:=C.K5 id n hn hl
 have xo:qD L.lq n=.ptr (L.lq id) 0 0 0:=by unfold qD;rw[if_pos hl,QX]
 rw[xo] at he
 have rZ:zO n.q<9223372036854775808:=by
  obtain ⟨r,Q⟩:=hQ
  unfold zO
  cases hq:n.q.l with
  | nil=>decide
  | cons x l=>
   have:=(Q.lens x (by rw[hq];simp)).2
   show x.len<_
   omega
 unfold Vy
 rw[ZI]
 by_cases hr:1<QH n.c.rt
 ·rw[if_pos hr]
  have dr:=decide_eq_true hr
  refine QW Qe 200 Tryz.func40 rfl Tryz.ntmps40 Tryz.results40 rfl fun base w pl hb=>?_
  have Qf:=Qd ho
  have ZS:=Qd he
  simp only[go_sem,simprocAttr,Qa,ho,Qf,he,ZS]
  refine QM hb kQ rfl ?_ (wz n.c) (Qm.flat rfl) rfl fun d h hR=>?_
  ·simp only[go_sem,simprocAttr,Qa,dr]
  obtain ⟨rfl,rfl⟩:=hR
  refine Qc hb ?_
  simp only[go_sem,simprocAttr,Qa,dr]
  have qW:=rY KE ZR qp
  cases qp
  case' true=>
   have hx:WO n ZR true=Md n.du ZR (zO n.q):=rfl
   rw[hx] at qW ⊢
   simp only[go_sem,simprocAttr,Qa,dr]
   refine QA Qe hb 200 mixed [(0,true),(1,true),(2,true),(3,true),(4,true),(5,true),(6,true),(7,true),(8,true),(9,true),(10,false),(11,false),(12,true),(13,true),(14,false)] (by kernel_rfl) (by kernel_rfl) ?_
   simp only[go_sem,simprocAttr,Qa,ho,Qf,he,ZS]
   refine Ju hb l9 rfl ?_ (pA hQ.toR) rfl fun d hR=>?_
   ·simp only[go_sem,simprocAttr,Qa,ho,Qf,he,ZS]
   subst hR
   refine QF hb ?_
   simp only[go_sem,simprocAttr,Qa,ho,Qf,he,ZS]
   refine Zo hb Qh5 rfl ?_ (Qly n.du DI.dl DI.rd DI.ZK ZR (zO n.q) VP Zf rZ) (Qm.flat rfl) rfl fun d h hR=>?_
   ·simp only[go_sem,simprocAttr,Qa,ho,Qf,he,ZS]
   obtain ⟨rfl,rfl⟩:=hR
   refine QF hb ?_
   simp only[go_sem,simprocAttr,Qa,ho,Qf,he,ZS]
   generalize Md n.du ZR (zO n.q)=x at qW ⊢
  case' false=>
   have hx:WO n ZR false=jT n.du (zO n.q):=rfl
   rw[hx] at qW ⊢
   simp only[go_sem,simprocAttr,Qa,dr]
   refine QA Qe hb 200 mixed [(0,true),(1,true),(2,true),(3,true),(4,true),(5,true),(6,true),(7,true),(8,true),(9,false),(10,false),(11,true),(12,true),(13,false)] (by kernel_rfl) (by kernel_rfl) ?_
   simp only[go_sem,simprocAttr,Qa,ho,Qf,he,ZS]
   refine Ju hb l9 rfl ?_ (pA hQ.toR) rfl fun d hR=>?_
   ·simp only[go_sem,simprocAttr,Qa,ho,Qf,he,ZS]
   subst hR
   refine QF hb ?_
   simp only[go_sem,simprocAttr,Qa,ho,Qf,he,ZS]
   refine Zo hb Qh6 rfl ?_ (Qlz n.du DI.dl DI.rd DI.ZK (zO n.q) rZ) (Qm.flat rfl) rfl fun d h hR=>?_
   ·simp only[go_sem,simprocAttr,Qa,ho,Qf,he,ZS]
   obtain ⟨rfl,rfl⟩:=hR
   refine QF hb ?_
   simp only[go_sem,simprocAttr,Qa,ho,Qf,he,ZS]
   generalize jT n.du (zO n.q)=x at qW ⊢
  all_goals
   have C1:=C.YZ hn (fun m=>{ m with du:=x }) (fun _=>rfl) (fun _=>rfl) ⟨KE.ZV,qW,KE.sh,KE.cp,KE.c⟩
   have D1:=Q6.set (own:=own) (h:=h) (VS (qD L.lq n) { n with du:=x }) (l:=L.le id) (by rw[(C.Zy id n hn).2];simp)
   rw[xo] at C1 D1
   generalize hH:h.set (L.le id) (VS (.ptr (L.lq id) 0 0 0) { n with du:=x })=H at C1 D1
   have yp:h.set (L.le id) ⟨.one,0,60,1,fun _=>Jn (.ptr (L.lq id) 0 0 0) { n with du:=x }⟩=H:=hH
   have Jb:Qh (Ka M.N id fun m=>{ m with du:=x }) id=some { n with du:=x }:=by
    rw[Wo (f:=fun m=>{ m with du:=x }) (fun _=>rfl),if_pos rfl,hn];rfl
   have ho:=C1.ob
   have Qf:=Qd ho
   have he:=(C1.Zy id _ Jb).1
   have r5:qD L.lq { n with du:=x }=.ptr (L.lq id) 0 0 0:=xo
   rw[r5] at he
   have ZS:=Qd he
   have AS:=GD I.tree C1.Vn.nd I.zU
   simp only[yp]
   refine VY [19] Qe hb 200 mixed [(0,true),(1,true),(2,true),(3,true),(4,true),(5,true),(6,true),(7,true),(8,true),(9,true),(10,true),(11,true),(12,true),(13,true),(14,true),(15,true),(16,true),(17,true),(18,true),(19,false)] [] (by kernel_rfl) (by kernel_rfl) ?_
   simp only[go_sem,simprocAttr,Qa,ho,Qf,he,ZS]
   refine Wf hb mg rfl ?_ (oN C1.Vn id x.Vw x.dead (by omega)) rfl fun d h8 hR=>?_
   ·simp only[go_sem,simprocAttr,QX]
   obtain ⟨T8,s8⟩:=hR
   have C8:=C1.lv T8 s8
   have D8:=D1.trans (Q6.of (own:=own) (t:=.lv) (by simp) s8)
   have ho:=C8.ob
   have Qf:=Qd ho
   have he:=(C8.Zy id _ Jb).1
   rw[r5] at he
   have ZS:=Qd he
   obtain ⟨kq8,Qum,SK⟩:=C8.K5 id _ Jb hl
   refine QF hb ?_
   simp only[go_sem,simprocAttr,Qa,ho,Qf,he,ZS]
   refine QL hb Cz rfl ?_ (Dq SK.toR) rfl fun d hR=>?_
   ·simp only[go_sem,simprocAttr,Qa,ho,Qf,he,ZS]
   subst hR
   refine Qc hb ?_
   simp only[go_sem,simprocAttr,Qa,ho,Qf,he,ZS]
   cases hq:n.q.l with
   | cons y l=>
    have dq:(((l.length+1:Nat):Int) == 0)=false:=Vq (by omega)
    rw[if_neg (by simp)]
    simp only[go_sem,simprocAttr,Qa,hq,dq]
    exact ⟨_,C8,D8⟩
   | nil=>
    rw[if_pos rfl]
    have AS:=GD I.tree C8.Vn.nd (fun y hy=>by
     rcases yw.1 hy with rfl | hy
     ·rw[I.some hn];rfl
     ·exact I.zU y (List.mem_filter.1 hy).1)
    simp only[go_sem,simprocAttr,Qa,hq]
    refine VY [9] Qe hb 200 mixed [(0,true),(1,true),(2,true),(3,true),(4,true),(5,true),(6,true),(7,true),(8,true),(9,false)] [] (by kernel_rfl) (by kernel_rfl) ?_
    simp only[go_sem,simprocAttr,Qa,ho,Qf,he,ZS]
    refine Wf hb mh rfl ?_ (oL C8.Vn id (by omega)) rfl fun d h9 hR=>?_
    ·simp only[go_sem,simprocAttr,QX]
    obtain ⟨rfl,T9,s9⟩:=hR
    refine QF hb ?_
    simp only[go_sem,simprocAttr,Qa]
    exact ⟨_,C8.lv T9 s9,D8.trans (Q6.of (by simp) s9)⟩
 ·rw[if_neg hr]
  have dr:=decide_eq_false hr
  refine QW Qe 200 Tryz.func40 rfl Tryz.ntmps40 Tryz.results40 rfl fun base w pl hb=>?_
  have Qf:=Qd ho
  have ZS:=Qd he
  simp only[go_sem,simprocAttr,Qa,ho,Qf,he,ZS]
  refine QM hb kQ rfl ?_ (wz n.c) (Qm.flat rfl) rfl fun d h hR=>?_
  ·simp only[go_sem,simprocAttr,Qa,dr]
  obtain ⟨rfl,rfl⟩:=hR
  refine Qc hb ?_
  simp only[go_sem,simprocAttr,Qa,dr]
  exact ⟨own,C,Q6.refl own h⟩
end
def Bx (L:List It):Nat:=(L.head?.getD default).ka
def zV (M:Qj) (now:Nat) (n:Nd):Nd:={ n with sh:=Bl n.sh (Jl n.c.ls) (Bx (M.KT n.c.parent)) n.ZV,cp:=wW n.cp (Jl n.c.ul) now n.ZV }
def KM (now:Nat) (M:Qj) (j:Int):Qj:={ M with N:=Ka M.N j (zV M now) }
def Jy (M:Qj) (now:Nat) (id:Int) (head:Int):Qj:=
 if 1<QH (QC M id).c.rt then { M with
   N:=Ka M.N id fun n=>{ n with du:=W8 (QC M id).du (Jl (QC M id).c.rt) now head }
   Lv:=Vv id (W8 (QC M id).du (Jl (QC M id).c.rt) now head).Vw (W8 (QC M id).du (Jl (QC M id).c.rt) now head).dead M.Lv }
 else M
def j9 (M:Qj) (now:Nat) (id:Int) (head:Int):Qj:=
 if 1<QH (QC M id).c.ls then JT ((Vs M.T M.A id).foldl (KM now) { Jy M now id head with A:=id::M.A }) (up M.T id)
 else Jy M now id head
theorem QnY (N:List Nd) (id:Int) (f:Nd→Nd) (hf:∀ n,(f n).c=n.c):(Ka N id f).map (·.c)=N.map (·.c):=by
 unfold Ka
 rw[List.map_map]
 congr 1
 funext n
 simp only[Function.comp_apply]
 split
 ·exact hf n
 ·rfl
theorem Qy.Ka {M:Qj} (I:Qy M) (id:Int) (f:Nd→Nd) (hf:∀ n,(f n).c=n.c):Qy { M with N:=X.Ka M.N id f }:=by
 refine ⟨I.tree,I.vA,I.to,by dsimp only;rw[QnY _ _ _ hf];exact I.nodes,I.Wp,fun j=>?_,I.zU,I.Ya,I.YG,I.Zx,I.acc⟩
 dsimp only
 rw[I.ks,Wo (fun n=>by rw[hf])]
 by_cases hj:j=id
 ·subst hj
  rw[if_pos rfl]
  constructor
  ·rintro (h | ⟨n,h1,h2⟩)
   ·exact .inl h
   ·exact .inr ⟨f n,by rw[h1];rfl,by rw[hf];exact h2⟩
  ·rintro (h | ⟨n,h1,h2⟩)
   ·exact .inl h
   ·cases hq:Qh M.N j with
    | none=>rw[hq] at h1;cases h1
    | some m=>
     rw[hq] at h1;cases h1
     exact .inr ⟨m,rfl,by rw[← hf];exact h2⟩
 ·rw[if_neg hj]
theorem Qy.lv {M:Qj} (I:Qy M) {B:List It} (h:∀ x∈B,(Qr M.T x.ki).isSome=true):Qy { M with Lv:=B }:=
 ⟨I.tree,I.vA,I.to,I.nodes,I.Wp,I.ks,h,I.Ya,I.YG,I.Zx,I.acc⟩
theorem Qy.act {M:Qj} (I:Qy M) {B:List Int} (h:qK M.T B):Qy { M with A:=B }:=
 ⟨I.tree,I.vA,I.to,I.nodes,h,I.ks,I.zU,I.Ya,I.YG,I.Zx,I.acc⟩
theorem GG {id:Int} {a b:Nat} {L:List It} {x:It} (h:x∈Vv id a b L):x.ki=id∨x∈L:=by
 rcases yw.1 h with rfl | h
 ·exact .inl rfl
 ·exact .inr (List.mem_filter.1 h).1
theorem r6 {M:Qj} (I:Qy M) {now:Nat} (Wq:now<18446744073709551616) {n:Nd} (h:n.Ok):(zV M now n).Ok:=by
 have Cj:Bx (M.KT n.c.parent)<18446744073709551616:=by
  unfold Bx
  cases hq:M.KT n.c.parent with
  | nil=>decide
  | cons x l=>
   have:=I.YG n.c.parent x (by rw[hq];simp)
   show x.ka<_
   omega
 exact ⟨h.ZV,h.du,QlL h.sh h.c.2.2.2.2.1.lt Cj h.ZV,QlR h.cp h.c.2.2.2.2.2.1.lt Wq h.ZV,h.c⟩
theorem Qy.KM {M:Qj} (I:Qy M) (now:Nat) (j:Int):Qy (KM now M j):=I.Ka j (zV M now) fun _=>rfl
theorem GH (now:Nat):∀ (l:List Int) (M:Qj),(l.foldl (KM now) M).T=M.T∧(l.foldl (KM now) M).A=M.A∧(l.foldl (KM now) M).KT=M.KT∧(l.foldl (KM now) M).lk=M.lk∧(l.foldl (KM now) M).Zx=M.Zx∧(l.foldl (KM now) M).acc=M.acc
 | [],M=>⟨rfl,rfl,rfl,rfl,rfl,rfl⟩
 | j::l,M=>GH now l (X.KM now M j)
theorem Qy.MG {now:Nat}:∀ (l:List Int) {M:Qj},Qy M→Qy (l.foldl (X.KM now) M)
 | [],M,I=>I
 | j::l,M,I=>Qy.MG l (I.KM now j)
theorem MH {M:Qj} {now:Nat} {id:Int} {head:Int}:(Jy M now id head).T=M.T∧(Jy M now id head).A=M.A∧(Jy M now id head).KT=M.KT∧(Jy M now id head).lk=M.lk:=by
 unfold Jy;split <;> exact ⟨rfl,rfl,rfl,rfl⟩
theorem Qy.Jy {M:Qj} (I:Qy M) {id:Int} {n:Nd} (hn:Qh M.N id=Option.some n) (now:Nat) (head:Int):Qy (Jy M now id head):=by
 unfold X.Jy
 split
 ·refine (I.Ka id (fun n=>{ n with du:=W8 (QC M id).du (Jl (QC M id).c.rt) now head }) fun _=>rfl).lv fun x hx=>?_
  rcases GG hx with h | h
  ·rw[h]
   show (Qr M.T id).isSome=true
   rw[I.some hn];rfl
  ·exact I.zU x h
 ·exact I
theorem QnZ {M:Qj} {now:Nat} {id:Int} {head:Int} (j:Int) {n:Nd} (hn:Qh M.N j=some n):∃ m,Qh (Jy M now id head).N j=some m∧m.c=n.c:=by
 unfold Jy
 split
 ·dsimp only
  rw[Wo (f:=fun n=>{ n with du:=W8 (QC M id).du (Jl (QC M id).c.rt) now head }) (fun _=>rfl)]
  split
  ·rw[hn];exact ⟨_,rfl,rfl⟩
  ·exact ⟨n,hn,rfl⟩
 ·exact ⟨n,hn,rfl⟩
theorem SL {c:Cv} (h:Cv.Ok c):(((Jl c).a:Nat):Int)=c.m1∧(((Jl c).d:Nat):Int)=c.d∧(((Jl c).b:Nat):Int)=c.m2:=by
 have h1:=wf_u64 h.1
 have h2:=wf_u64 h.2.1
 have h3:=wf_u64 h.2.2.1
 refine ⟨?_,?_,?_⟩
 ·show ((c.m1.toNat:Nat):Int)=_;omega
 ·show ((c.d.toNat:Nat):Int)=_;omega
 ·show ((c.m2.toNat:Nat):Int)=_;omega
structure GI (own:Nat→Tag) (h:List Ob) (p:Nat) (L:Loc) (M:Qj) (now:Nat) (id:Int) (lo g:Nat) (row:Nat→List D) (U:List Int) (k:Nat) (s:St):Prop where
 ex:∃ own' H,Q4 own' H p L ((U.take k).foldl (KM now) M)∧Q6 own h own' H∧own' lo=.on∧H[lo]? = some ⟨.arr,g,1,U.length,row⟩ ∧
  s=⟨[(0,.ptr p 0 0 0),(1,u64 now),(8,Qb id),(72,.ref lo g 0 U.length),(73,Qb U.length),(74,Qb k)],H⟩
theorem GI.of {own:Nat→Tag} {h:List Ob} {p:Nat} {L:Loc} {M:Qj} {now:Nat} {id:Int} {lo g:Nat} {row:Nat→List D} {U:List Int} {k:Nat} {own':Nat→Tag} {H:List Ob} (C:Q4 own' H p L ((U.take k).foldl (KM now) M)) (D:Q6 own h own' H) (h1:own' lo=.on) (h2:H[lo]? = some ⟨.arr,g,1,U.length,row⟩) :
  GI own h p L M now id lo g row U k ⟨[(0,.ptr p 0 0 0),(1,u64 now),(8,Qb id),(72,.ref lo g 0 U.length),(73,Qb U.length),(74,Qb k)],H⟩:=⟨⟨own',H,C,D,h1,h2,rfl⟩⟩
theorem Qn0 {own:Nat→Tag} {h:List Ob} {p:Nat} {L:Loc} {M:Qj} (C:Q4 own h p L M) (I:Qy M) {id:Int} {n:Nd} (hn:Qh M.N id=some n) (hl:n.c.leaf=true) (now:Nat) (Wq:now<18446744073709551616) (head:Int) (hh:head<9223372036854775808) (JL:ZW M id=false) :
  QG Tryz.prog 49 h [.ptr p 0 0 0,u64 now,.ptr (L.le id) 0 0 0,Qb head] (fun d h'=>∃ own',Q4 own' h' p L (j9 M now id head)∧Qy (j9 M now id head)∧Q6 own h own' h'):=by
 have ho:=C.ob
 have he:=(C.Zy id n hn).1
 have QX:=Qy.id hn
 have ZI:QC M id=n:=by unfold QC;rw[hn];rfl
 have KE:=C.V8 id n hn
 obtain ⟨r1,r2,r3⟩:=SL KE.c.2.2.2.1
 have IR:=Qy.Jy I hn now head
 have Qun:L.le id≠p:=fun e=>by have h1:=(C.Zy id n hn).2;rw[e,C.op] at h1;cases h1
 obtain ⟨MR,DJ⟩:∃ MR,MR=Jy M now id head:=⟨_,rfl⟩
 have SM:j9 M now id head=if 1<QH n.c.ls then JT ((Vs M.T M.A id).foldl (KM now) { MR with A:=id::M.A }) (up M.T id) else MR:=by unfold j9;rw[ZI,DJ]
 by_cases hr:1<QH n.c.rt
 case' pos=>
  have dr:=decide_eq_true hr
  have qW:=pB KE.du KE.c.2.2.2.1.lt Wq head
  refine QW Qe 200 Tryz.func49 rfl Tryz.ntmps49 Tryz.results49 rfl fun base w pl hb=>?_
  have Qf:=Qd ho
  have ZS:=Qd he
  simp only[go_sem,simprocAttr,Qa,ho,Qf,he,ZS]
  refine QM hb kQ rfl ?_ (wz n.c) (Qm.flat rfl) rfl fun d h hR=>?_
  ·simp only[go_sem,simprocAttr,Qa,dr]
  obtain ⟨rfl,rfl⟩:=hR
  refine Qc hb ?_
  simp only[go_sem,simprocAttr,Qa,dr]
  refine QA Qe hb 200 mixed [(0,true),(1,true),(2,true),(3,true),(4,true),(5,true),(6,true),(7,true),(8,true),(9,true),(10,true),(11,true),(12,false),(13,true),(14,true),(15,false)] (by kernel_rfl) (by kernel_rfl) ?_
  simp only[go_sem,simprocAttr,Qa,ho,Qf,he,ZS]
  refine Zo hb Qib rfl ?_ (QlI n.du KE.du (Jl n.c.rt) KE.c.2.2.2.1.lt now Wq head hh) (Qm.flat rfl) rfl fun d h hR=>?_
  ·simp only[go_sem,simprocAttr,Qa,ho,Qf,he,ZS,r1,r2,r3]
  obtain ⟨rfl,rfl⟩:=hR
  refine QF hb ?_
  simp only[go_sem,simprocAttr,Qa,ho,Qf,he,ZS,r1,r2,r3]
  have MI:MR={ M with N:=Ka M.N id fun m=>{ m with du:=W8 n.du (Jl n.c.rt) now head },Lv:=Vv id (W8 n.du (Jl n.c.rt) now head).Vw (W8 n.du (Jl n.c.rt) now head).dead M.Lv }:=by
   rw[DJ];unfold Jy;rw[ZI,if_pos hr]
  generalize W8 n.du (Jl n.c.rt) now head=x at qW MI ⊢
  have C1:=C.YZ hn (fun m=>{ m with du:=x }) (fun _=>rfl) (fun _=>rfl) ⟨KE.ZV,qW,KE.sh,KE.cp,KE.c⟩
  have D1:=Q6.set (own:=own) (h:=h) (VS (qD L.lq n) { n with du:=x }) (l:=L.le id) (by rw[(C.Zy id n hn).2];simp)
  generalize hH:h.set (L.le id) (VS (qD L.lq n) { n with du:=x })=H at C1 D1
  have yp:h.set (L.le id) ⟨.one,0,60,1,fun _=>Jn (qD L.lq n) { n with du:=x }⟩=H:=hH
  have Jb:Qh (Ka M.N id fun m=>{ m with du:=x }) id=some { n with du:=x }:=by
   rw[Wo (f:=fun m=>{ m with du:=x }) (fun _=>rfl),if_pos rfl,hn];rfl
  have Zn:=C1.ob
  have K7:=Qd Zn
  have kb:=(C1.Zy id _ Jb).1
  have DK:=Qd kb
  have AS:=GD I.tree C1.Vn.nd I.zU
  simp only[yp]
  refine VY [15] Qe hb 200 mixed [(0,true),(1,true),(2,true),(3,true),(4,true),(5,true),(6,true),(7,true),(8,true),(9,true),(10,true),(11,true),(12,true),(13,true),(14,true),(15,false)] [] (by kernel_rfl) (by kernel_rfl) ?_
  simp only[go_sem,simprocAttr,Qa,Zn,K7,kb,DK]
  refine Wf hb mg rfl ?_ (oN C1.Vn id x.Vw x.dead (by omega)) rfl fun d h8 hR=>?_
  ·simp only[go_sem,simprocAttr,QX]
  obtain ⟨T8,s8⟩:=hR
  have CR:=C1.lv T8 s8
  have DR:=D1.trans (Q6.of (own:=own) (t:=.lv) (by simp) s8)
  rw[← MI] at CR
  refine QF hb ?_
  simp only[go_sem,simprocAttr,Qa]
  generalize Zg own H .lv=Quo at CR DR
  generalize h8=HR at CR DR ⊢
 case' neg=>
  have dr:=decide_eq_false hr
  refine QW Qe 200 Tryz.func49 rfl Tryz.ntmps49 Tryz.results49 rfl fun base w pl hb=>?_
  have Qf:=Qd ho
  have ZS:=Qd he
  simp only[go_sem,simprocAttr,Qa,ho,Qf,he,ZS]
  refine QM hb kQ rfl ?_ (wz n.c) (Qm.flat rfl) rfl fun d h hR=>?_
  ·simp only[go_sem,simprocAttr,Qa,dr]
  obtain ⟨rfl,rfl⟩:=hR
  refine Qc hb ?_
  simp only[go_sem,simprocAttr,Qa,dr]
  have MI:MR=M:=by rw[DJ];unfold Jy;rw[ZI,if_neg hr]
  have CR:=C
  rw[← MI] at CR
  have DR:=Q6.refl own h
 all_goals
  rw[← DJ] at IR
  obtain ⟨kT,kA,kK,kl⟩:=MH (M:=M) (now:=now) (id:=id) (head:=head)
  rw[← DJ] at kT kA kK kl
  obtain ⟨m,hm,qS⟩:∃ m,Qh MR.N id=some m∧m.c=n.c:=by rw[DJ];exact QnZ id hn
  have r7:=(CR.Zy id m hm).1
  have Qn1:=Qd r7
  have XI:=CR.ob
  have DL:=Qd XI
  simp only[go_sem,simprocAttr,Qa,r7,Qn1,qS]
  refine QM hb Ys rfl ?_ (Yu n.c) (Qm.flat rfl) rfl fun d h hR=>?_
  ·simp only[go_sem,simprocAttr,Qa]
  obtain ⟨rfl,rfl⟩:=hR
  refine Qc hb ?_
  simp only[go_sem,simprocAttr,Qa]
  by_cases hs:1<QH n.c.ls
  case neg=>
   have ds:=decide_eq_false hs
   simp only[go_sem,simprocAttr,Qa,ds]
   rw[SM,if_neg hs]
   exact ⟨_,CR,IR,DR⟩
  have ds:=decide_eq_true hs
  rw[if_pos hs,← kA,← kT] at SM
  rw[SM]
  have Ks:Qr MR.T id=some n.c:=by rw[kT];exact I.some hn
  have hO:=CR.Wn
  rw[IR.to] at hO
  have r8:Zu MR.T MR.A id=false:=by rw[kT,kA];exact JL
  simp only[go_sem,simprocAttr,Qa,ds,XI,DL]
  refine Q5 hb OX rfl ?_ (ox hO IR.tree IR.Wp id n.c Ks hl hs r8) rfl fun d h9 hR=>?_
  ·simp only[go_sem,simprocAttr,QX]
  obtain ⟨d1,rfl,jD,O9,s9⟩:=hR
  rw[← IR.to] at O9
  have C9:=CR.act O9 s9
  have D9:=DR.trans (Q6.of (t:=.on) (by simp) s9)
  have I9:Qy { MR with A:=id::MR.A }:=IR.act (fun a ha=>by
   rcases List.mem_cons.1 ha with rfl | ha
   ·exact ⟨n.c,Ks,hl,hs⟩
   ·exact IR.Wp a ha)
  obtain ⟨U,hU⟩:∃ U,U=Vs MR.T MR.A id:=⟨_,rfl⟩
  rw[← hU] at jD ⊢
  have MF:U.length≤16:=by
   rw[hU]
   exact Nat.le_trans (List.takeWhile_sublist _).length_le kY
  have SN:∀ j∈U,j∈up MR.T id:=fun j hj=>by rw[hU] at hj;exact (List.takeWhile_sublist _).subset hj
  obtain ⟨M9,GJ⟩:∃ M9,M9={ MR with A:=id::MR.A }:=⟨_,rfl⟩
  have MJ:M9.T=MR.T:=by rw[GJ]
  rw[← GJ] at C9 I9 ⊢
  rcases jD with ⟨rfl,GK⟩ | ⟨lo,g,off,row,rfl,⟨Zp,rfl⟩,By,ZN⟩
  ·exfalso
   rw[hU,Vs,JQ IR.tree Ks,List.takeWhile_cons,r8] at GK
   cases GK
  have Qn2:=Qd By
  rw[Nat.zero_add] at By
  refine Qc hb ?_
  simp only[go_sem,simprocAttr,Qa]
  refine ZB (GI own h p L M9 now id lo g row U) U.length (Ql.frame (by simp only[go_sem,simprocAttr,QX])) (GI.of (k:=0) C9 D9 (by unfold Zg;rw[if_pos Zp]) By) ?_
  rintro k _ hk ⟨own',H,Ck,Dk,yc,Z5,rfl⟩
  have GL:=Qd Z5
  by_cases Qq:k<U.length
  case neg=>
   have Z1:k=U.length:=by omega
   have dk:=decide_eq_false Qq
   rw[Z1,List.take_length] at Ck
   have Ik:=Qy.MG (now:=now) U I9
   have Bz:=(GH now U M9).1
   have ZH:=SI Ck Ik id
   rw[Bz,MJ] at ZH
   refine Qc hb ?_
   simp only[go_sem,simprocAttr,Qa,dk]
   refine Qc hb ?_
   simp only[go_sem,simprocAttr,Qa]
   refine Q5 hb OU rfl ?_ ZH rfl fun d Yk hR=>?_
   ·simp only[go_sem,simprocAttr]
   obtain ⟨MK,qX,ML,yN⟩:=hR
   refine Qc hb ?_
   simp only[go_sem,simprocAttr,Qa]
   exact ⟨MK,qX,ML,Dk.trans yN⟩
  have dk:=decide_eq_true Qq
  obtain ⟨j,hj⟩:∃ j,j=U.getD k 0:=⟨_,rfl⟩
  have xp:j∈up MR.T id:=SN j (by rw[hj];exact yl U 0 k Qq)
  have GM:row k=[Qb j]:=by have:=ZN k Qq;rw[Nat.zero_add] at this;rw[this,hj]
  have Zt:(U.take (k+1)).foldl (KM now) M9=KM now ((U.take k).foldl (KM now) M9) j:=by
   rw[getD_take U 0 k Qq,List.foldl_append,← hj];rfl
  have Ik:=Qy.MG (now:=now) (U.take k) I9
  have Bz:=(GH now (U.take k) M9).1
  obtain ⟨Mk,xn⟩:∃ Mk,Mk=(U.take k).foldl (KM now) M9:=⟨_,rfl⟩
  rw[← xn] at Ck Ik Bz Zt
  obtain ⟨y,hy⟩:∃ y,Qh Mk.N j=some y:=by
   have VE:=AU xp
   rw[← MJ,← Bz,Ik.find] at VE
   cases hq:Qh Mk.N j with
   | none=>rw[hq] at VE;cases VE
   | some y=>exact ⟨y,rfl⟩
  have qY:=Ck.V8 j y hy
  obtain ⟨l1,l2,l3⟩:=SL qY.c.2.2.2.2.1
  obtain ⟨u1,u2,u3⟩:=SL qY.c.2.2.2.2.2.1
  have YF:=Ck.look hy
  have Vz:=Ck.ob
  have Yb:=Qd Vz
  have Yc:=Ck.JS
  have yO:=Qd Yc
  have qq:=(Ck.Zy j y hy).1
  have YH:=Qd qq
  have wD:=Ck.J3
  have Lx:=Qd wD
  have XE:=SH Ik hy
  have Xb:=Ck.Vo.at_ y.c.parent
  rw[if_pos XE] at Xb
  have qZ:=(Ck.kids _ XE).toR
  have Zl:=KG (show k<4611686018427387904 by omega)
  have Cj:Bx (Mk.KT y.c.parent)<18446744073709551616:=by
   unfold Bx
   cases hq:Mk.KT y.c.parent with
   | nil=>decide
   | cons x l=>
    have:=Ik.YG y.c.parent x (by rw[hq];simp)
    show x.ka<_
    omega
  have QD:L.le j≠lo:=fun e=>by have h1:=(Ck.Zy j y hy).2;rw[e,yc] at h1;cases h1
  refine Qc hb ?_
  simp only[go_sem,simprocAttr,Qa,dk,Qq,GM,Vz,Yb,Yc,yO,Z5,GL,YF]
  refine QA Qe hb 200 mixed [(0,true),(1,true),(2,true),(3,true),(4,true),(5,true),(6,true),(7,true),(8,true),(9,true),(10,false),(11,true),(12,true),(13,true),(14,true),(15,true)] (by kernel_rfl) (by kernel_rfl) ?_
  simp only[go_sem,simprocAttr,Qa,Vz,Yb,qq,YH,wD,Lx,Xb]
  refine Ju hb Qic rfl ?_ (QkS qZ) rfl fun d hR=>?_
  ·simp only[go_sem,simprocAttr,Qa,Vz,Yb]
  subst hR
  refine QF hb ?_
  simp only[go_sem,simprocAttr,Qa,Vz,Yb]
  have hlv:(((Mk.KT y.c.parent).head?.getD default).ka:Int)=((Bx (Mk.KT y.c.parent):Nat):Int):=rfl
  simp only[hlv]
  refine QA Qe hb 200 mixed [(0,true),(1,true),(2,true),(3,true),(4,true),(5,true),(6,true),(7,true),(8,true),(9,true),(10,true),(11,true),(12,true),(13,true),(14,true),(15,false),(16,true),(17,true),(18,false)] (by kernel_rfl) (by kernel_rfl) ?_
  simp only[go_sem,simprocAttr,Qa,qq,YH]
  refine Zo hb Qid rfl ?_ (QlN y.sh qY.sh (Jl y.c.ls) qY.c.2.2.2.2.1.lt (Bx (Mk.KT y.c.parent)) y.ZV Cj qY.ZV) (Qm.flat rfl) rfl fun d h hR=>?_
  ·simp only[go_sem,simprocAttr,Qa,qq,YH,l1,l2,l3]
  obtain ⟨rfl,rfl⟩:=hR
  refine QF hb ?_
  simp only[go_sem,simprocAttr,Qa,qq,YH,l1,l2,l3]
  have SO:∀ s,(H.set (L.le j) ⟨.one,0,60,1,fun _=>Jn (qD L.lq y) s⟩)[L.le j]? = some ⟨.one,0,60,1,fun _=>Jn (qD L.lq y) s⟩:=fun s=>Qw YH
  have SP:∀ s,L.le j<(H.set (L.le j) s).length:=fun s=>by simpa using YH
  refine QA Qe hb 200 mixed [(0,true),(1,true),(2,true),(3,true),(4,true),(5,true),(6,true),(7,true),(8,true),(9,true),(10,true),(11,true),(12,true),(13,true),(14,true),(15,false),(16,true),(17,true),(18,false)] (by kernel_rfl) (by kernel_rfl) ?_
  simp only[go_sem,simprocAttr,Qa,SO,SP,YH]
  refine Zo hb Qie rfl ?_ (QlS y.cp qY.cp (Jl y.c.ul) qY.c.2.2.2.2.2.1.lt now y.ZV Wq qY.ZV) (Qm.flat rfl) rfl fun d h hR=>?_
  ·simp only[go_sem,simprocAttr,Qa,SO,SP,u1,u2,u3,YH]
  obtain ⟨rfl,rfl⟩:=hR
  refine QF hb ?_
  simp only[go_sem,simprocAttr,Qa,SO,SP,u1,u2,u3,YH]
  have C4:=Ck.YZ hy (zV Mk now) (fun _=>rfl) (fun _=>rfl) (r6 Ik Wq qY)
  have D4:=Q6.set (own:=own') (h:=H) (VS (qD L.lq y) (zV Mk now y)) (l:=L.le j) (by rw[(Ck.Zy j y hy).2];simp)
  refine ⟨Qq,_,Ql.frame (by simp only[go_sem,simprocAttr,Zl,QX]),GI.of (by rw[Zt];exact C4) (Dk.trans D4) yc (by rw[Qt QD];exact Z5)⟩
theorem Qn4 {S:Nat→Prop} {h:List Ob} {p:Nat} {T:List Qi} {A:List Int} (O:W6 S h p T A) (leaf:Int) (c:Qi) (hc:Qr T leaf=some c) (WI:¬ 1<QH c.ls) :
  QG Tryz.prog 118 h [.ptr p 0 0 0,Qb leaf] (fun d h'=>d=.tup [.nil,Qb 6]∧h'=h):=by
 obtain ⟨b1,b2,b3,c1,c2,c3,Jc,Jg,Jj,kl,O⟩:=O
 have ho:=O.o
 have m1:=O.m1
 have k1:=O.f1.at_ leaf
 rw[Yy,hc] at k1
 simp only[if_neg WI] at k1
 refine QW Qe 200 Tryz.func118 rfl Tryz.ntmps118 Tryz.results118 rfl fun base w pl hb=>?_
 have Qf:=Qd ho
 have Yz:=Qd m1
 simp only[go_sem,simprocAttr,Qa,ho,Qf,m1,Yz,k1,Go.undef]
def zW:Sh:=⟨false,⟨⟨0,0,0⟩,⟨0,0,0⟩,false⟩,0⟩
theorem r9:zW.Ok:=⟨⟨Ln.X7,Ln.X7⟩,by decide⟩
def VA (M:Qj) (c:Int):Qj:={ M with N:=Ka M.N c fun n=>{ n with sh:=zW } }
def Kg (M:Qj) (j:Int):Qj:={ M with KT:=fun i=>if i=(QC M j).c.parent then JC j (M.KT (QC M j).c.parent) else M.KT i }
def ZL (M:Qj) (j:Int):Qj:=
 if JC j (M.KT (QC M j).c.parent)=[] then (KI M.T (QC M j).c.parent).foldl VA (Kg M j) else Kg M j
def Yd (M:Qj) (id:Int):Qj:=
 if 1<QH (QC M id).c.ls then (Vs M.T (Z2 M.A id) id).foldl ZL { M with A:=Z2 M.A id } else M
theorem Qy.VA {M:Qj} (I:Qy M) (c:Int):Qy (VA M c):=I.Ka c (fun n=>{ n with sh:=zW }) fun _=>rfl
theorem MM:∀ (l:List Int) (M:Qj),(l.foldl VA M).T=M.T∧(l.foldl VA M).A=M.A∧(l.foldl VA M).KT=M.KT∧(l.foldl VA M).lk=M.lk∧(l.foldl VA M).Zx=M.Zx∧(l.foldl VA M).acc=M.acc∧(l.foldl VA M).Lv=M.Lv
 | [],M=>⟨rfl,rfl,rfl,rfl,rfl,rfl,rfl⟩
 | j::l,M=>MM l (VA M j)
theorem Qy.SQ:∀ (l:List Int) {M:Qj},Qy M→Qy (l.foldl X.VA M)
 | [],M,I=>I
 | j::l,M,I=>Qy.SQ l (I.VA j)
theorem Qy.Kg {M:Qj} (I:Qy M) (j:Int):Qy (Kg M j):=by
 refine ⟨I.tree,I.vA,I.to,I.nodes,I.Wp,I.ks,I.zU,fun i x hx=>?_,fun i x hx=>?_,I.Zx,I.acc⟩
 ·unfold X.Kg at hx
  dsimp only at hx
  split at hx
  ·rename_i hj
   subst hj
   exact I.Ya _ x (List.mem_filter.1 hx).1
  ·exact I.Ya _ x hx
 ·unfold X.Kg at hx
  dsimp only at hx
  split at hx
  ·exact I.YG _ x (List.mem_filter.1 hx).1
  ·exact I.YG _ x hx
theorem Qy.ZL {M:Qj} (I:Qy M) (j:Int):Qy (ZL M j):=by
 unfold X.ZL
 split
 ·exact Qy.SQ _ (I.Kg j)
 ·exact I.Kg j
theorem Qy.GN:∀ (l:List Int) {M:Qj},Qy M→Qy (l.foldl X.ZL M)
 | [],M,I=>I
 | j::l,M,I=>Qy.GN l (I.ZL j)
theorem sb (M:Qj) (j:Int):(ZL M j).T=M.T∧(ZL M j).A=M.A∧(ZL M j).lk=M.lk∧(ZL M j).Zx=M.Zx∧(ZL M j).acc=M.acc∧(ZL M j).Lv=M.Lv:=by
 unfold ZL
 split
 ·obtain ⟨a1,a2,a3,a4,a5,a6,a7⟩:=MM (KI M.T (QC M j).c.parent) (Kg M j)
  exact ⟨a1,a2,a4,a5,a6,a7⟩
 ·exact ⟨rfl,rfl,rfl,rfl,rfl,rfl⟩
theorem GO:∀ (l:List Int) (M:Qj),(l.foldl ZL M).T=M.T∧(l.foldl ZL M).A=M.A∧(l.foldl ZL M).lk=M.lk∧(l.foldl ZL M).Zx=M.Zx∧(l.foldl ZL M).acc=M.acc∧(l.foldl ZL M).Lv=M.Lv
 | [],M=>⟨rfl,rfl,rfl,rfl,rfl,rfl⟩
 | j::l,M=>by
  obtain ⟨a1,a2,a3,a4,a5,a6⟩:=GO l (ZL M j)
  obtain ⟨b1,b2,b3,b4,b5,b6⟩:=sb M j
  exact ⟨a1.trans b1,a2.trans b2,a3.trans b3,a4.trans b4,a5.trans b5,a6.trans b6⟩
theorem Qy.Yd {M:Qj} (I:Qy M) (id:Int):Qy (Yd M id):=by
 unfold X.Yd
 split
 ·exact Qy.GN _ (I.act (I.Wp.off id))
 ·exact I
structure DM (own:Nat→Tag) (h:List Ob) (p:Nat) (L:Loc) (M:Qj) (lo g:Nat) (row:Nat→List D) (U:List Int) (k:Nat) (s:St):Prop where
 ex:∃ own' H,Q4 own' H p L ((U.take k).foldl ZL M)∧Q6 own h own' H∧own' lo=.on∧H[lo]? = some ⟨.arr,g,1,U.length,row⟩ ∧
  s=⟨[(0,.ptr p 0 0 0),(22,.ref lo g 0 U.length),(23,Qb U.length),(24,Qb k)],H⟩
theorem DM.of {own:Nat→Tag} {h:List Ob} {p:Nat} {L:Loc} {M:Qj} {lo g:Nat} {row:Nat→List D} {U:List Int} {k:Nat} {own':Nat→Tag} {H:List Ob} (C:Q4 own' H p L ((U.take k).foldl ZL M)) (D:Q6 own h own' H) (h1:own' lo=.on) (h2:H[lo]? = some ⟨.arr,g,1,U.length,row⟩) :
  DM own h p L M lo g row U k ⟨[(0,.ptr p 0 0 0),(22,.ref lo g 0 U.length),(23,Qb U.length),(24,Qb k)],H⟩:=⟨⟨own',H,C,D,h1,h2,rfl⟩⟩
structure GP (own:Nat→Tag) (h:List Ob) (p:Nat) (L:Loc) (M:Qj) (lo g:Nat) (row:Nat→List D) (U V:List Int) (k:Nat) (i:Nat) (s:St):Prop where
 ex:∃ own' H,Q4 own' H p L ((V.take i).foldl VA M)∧Q6 own h own' H∧own' lo=.on∧H[lo]? = some ⟨.arr,g,1,U.length,row⟩ ∧
  s=⟨[(0,.ptr p 0 0 0),(22,.ref lo g 0 U.length),(23,Qb U.length),(24,Qb k),(59,ints V),(60,Qb V.length),(61,Qb i)],H⟩
theorem GP.of {own:Nat→Tag} {h:List Ob} {p:Nat} {L:Loc} {M:Qj} {lo g:Nat} {row:Nat→List D} {U V:List Int} {k i:Nat} {own':Nat→Tag} {H:List Ob} (C:Q4 own' H p L ((V.take i).foldl VA M)) (D:Q6 own h own' H) (h1:own' lo=.on) (h2:H[lo]? = some ⟨.arr,g,1,U.length,row⟩) :
  GP own h p L M lo g row U V k i ⟨[(0,.ptr p 0 0 0),(22,.ref lo g 0 U.length),(23,Qb U.length),(24,Qb k),(59,ints V),(60,Qb V.length),(61,Qb i)],H⟩:=⟨⟨own',H,C,D,h1,h2,rfl⟩⟩
theorem Qn5 {own:Nat→Tag} {h:List Ob} {p:Nat} {L:Loc} {M:Qj} (C:Q4 own h p L M) (I:Qy M) {id:Int} {n:Nd} (hn:Qh M.N id=some n) (hl:n.c.leaf=true) (VI:1<QH n.c.ls→id∈M.A) (JL:Zu M.T (Z2 M.A id) id=false) :
  QG Tryz.prog 42 h [.ptr p 0 0 0,Qb id] (fun d h'=>∃ own',Q4 own' h' p L (Yd M id)∧Qy (Yd M id)∧Q6 own h own' h'):=by
 have ho:=C.ob
 have ZI:QC M id=n:=by unfold QC;rw[hn];rfl
 have Ks:Qr M.T id=some n.c:=I.some hn
 have hO:=C.Wn
 have hlen:=I.tree.len
 rw[I.to] at hO
 by_cases hs:1<QH n.c.ls
 case neg=>
  have hM:Yd M id=M:=by unfold Yd;rw[ZI,if_neg hs]
  refine QW Qe 200 Tryz.func42 rfl Tryz.ntmps42 Tryz.results42 rfl fun base w pl hb=>?_
  have Qf:=Qd ho
  simp only[go_sem,simprocAttr,Qa,ho,Qf]
  refine Q5 hb mi rfl ?_ (Qn4 hO id n.c Ks hs) rfl fun d h9 hR=>?_
  ·simp only[go_sem,simprocAttr]
  obtain ⟨rfl,rfl⟩:=hR
  refine Qc hb ?_
  simp only[go_sem,simprocAttr,Qa]
  rw[hM]
  exact ⟨own,C,I,Q6.refl own h9⟩
 have hM:Yd M id=(Vs M.T (Z2 M.A id) id).foldl ZL { M with A:=Z2 M.A id }:=by unfold Yd;rw[ZI,if_pos hs]
 have I9:Qy { M with A:=Z2 M.A id }:=I.act (I.Wp.off id)
 have SR:=Qy.GN (Vs M.T (Z2 M.A id) id) I9
 rw[hM]
 refine QW Qe 200 Tryz.func42 rfl Tryz.ntmps42 Tryz.results42 rfl fun base w pl hb=>?_
 have Qf:=Qd ho
 simp only[go_sem,simprocAttr,Qa,ho,Qf]
 refine Q5 hb mi rfl ?_ (QkG hO I.tree I.Wp id n.c Ks hl hs (VI hs) JL) rfl fun d h9 hR=>?_
 ·simp only[go_sem,simprocAttr]
 obtain ⟨d1,rfl,jD,O9,s9⟩:=hR
 rw[← I.to] at O9
 have C9:=C.act O9 s9
 have D9:=Q6.of (own:=own) (t:=.on) (by simp) s9
 obtain ⟨U,hU⟩:∃ U,U=Vs M.T (Z2 M.A id) id:=⟨_,rfl⟩
 rw[← hU] at jD SR ⊢
 have MF:U.length≤16:=by
  rw[hU]
  exact Nat.le_trans (List.takeWhile_sublist _).length_le kY
 have SN:∀ j∈U,j∈up M.T id:=fun j hj=>by rw[hU] at hj;exact (List.takeWhile_sublist _).subset hj
 obtain ⟨M9,GJ⟩:∃ M9,M9={ M with A:=Z2 M.A id }:=⟨_,rfl⟩
 have MJ:M9.T=M.T:=by rw[GJ]
 rw[← GJ] at C9 I9 SR ⊢
 rcases jD with ⟨rfl,GK⟩ | ⟨lo,g,off,row,rfl,⟨Zp,rfl⟩,By,ZN⟩
 ·exfalso
  rw[hU,Vs,JQ I.tree Ks,List.takeWhile_cons,JL] at GK
  cases GK
 have Qn2:=Qd By
 rw[Nat.zero_add] at By
 refine Qc hb ?_
 simp only[go_sem,simprocAttr,Qa]
 refine ZB (DM own h p L M9 lo g row U) U.length (Ql.frame (by simp only[go_sem,simprocAttr])) (DM.of (k:=0) C9 D9 (by unfold Zg;rw[if_pos Zp]) By) ?_
 rintro k _ hk ⟨own',H,Ck,Dk,yc,Z5,rfl⟩
 have GL:=Qd Z5
 by_cases Qq:k<U.length
 case neg=>
  have Z1:k=U.length:=by omega
  have dk:=decide_eq_false Qq
  rw[Z1,List.take_length] at Ck
  refine Qc hb ?_
  simp only[go_sem,simprocAttr,Qa,dk]
  exact ⟨own',Ck,SR,Dk⟩
 have dk:=decide_eq_true Qq
 obtain ⟨j,hj⟩:∃ j,j=U.getD k 0:=⟨_,rfl⟩
 have xp:j∈up M.T id:=SN j (by rw[hj];exact yl U 0 k Qq)
 have GM:row k=[Qb j]:=by have:=ZN k Qq;rw[Nat.zero_add] at this;rw[this,hj]
 have Zt:(U.take (k+1)).foldl ZL M9=ZL ((U.take k).foldl ZL M9) j:=by
  rw[getD_take U 0 k Qq,List.foldl_append,← hj];rfl
 have Ik:=Qy.GN (U.take k) I9
 have Bz:=(GO (U.take k) M9).1
 obtain ⟨Mk,xn⟩:∃ Mk,Mk=(U.take k).foldl ZL M9:=⟨_,rfl⟩
 rw[← xn] at Ck Ik Bz Zt
 obtain ⟨y,hy⟩:∃ y,Qh Mk.N j=some y:=by
  have VE:=AU xp
  rw[← MJ,← Bz,Ik.find] at VE
  cases hq:Qh Mk.N j with
  | none=>rw[hq] at VE;cases VE
  | some y=>exact ⟨y,rfl⟩
 have Gq:QC Mk j=y:=by unfold QC;rw[hy];rfl
 have YF:=Ck.look hy
 have Vz:=Ck.ob
 have Yb:=Qd Vz
 have Yc:=Ck.JS
 have yO:=Qd Yc
 have qq:=(Ck.Zy j y hy).1
 have YH:=Qd qq
 have wD:=Ck.J3
 have Lx:=Qd wD
 have XE:=SH Ik hy
 have Xb:=Ck.Vo.at_ y.c.parent
 rw[if_pos XE] at Xb
 have qZ:=Ck.kids _ XE
 have Zl:=KG (show k<4611686018427387904 by omega)
 have AS:=GD Ik.tree qZ.nd (Ik.SF _)
 refine Qc hb ?_
 simp only[go_sem,simprocAttr,Qa,dk,Qq,GM,Vz,Yb,Yc,yO,Z5,GL,YF,qq,YH,wD,Lx,Xb]
 refine Q5 hb Qh8 rfl ?_ (QkU qZ j (by omega)) rfl fun d Yk hR=>?_
 ·simp only[go_sem,simprocAttr]
 obtain ⟨rfl,se,SS⟩:=hR
 have qX:=Ck.Vm _ XE se SS
 have yN:=Dk.trans (Q6.of (t:=.Vm y.c.parent) (by simp) SS)
 have Di:{ Mk with KT:=fun i=>if i=y.c.parent then JC j (Mk.KT y.c.parent) else Mk.KT i }=Kg Mk j:=by unfold Kg;rw[Gq]
 rw[Di] at qX
 have ML:=Ik.Kg j
 have MK:Zg own' H (.Vm y.c.parent) lo=.on:=by rw[qo GL];exact yc
 have sf:Yk[lo]? = some ⟨.arr,g,1,U.length,row⟩:=(SS.keep lo GL (by rw[yc];simp)).trans Z5
 have GQ:ZL Mk j=if JC j (Mk.KT y.c.parent)=[] then (KI Mk.T y.c.parent).foldl VA (Kg Mk j) else Kg Mk j:=by unfold ZL;rw[Gq]
 have BA:=qX.ob
 have DN:=Qd BA
 have sg:=qX.J3
 have Qn6:=Qd sg
 have si:=qX.Vo.at_ y.c.parent
 rw[if_pos (show (Kg Mk j).ks y.c.parent=true from XE)] at si
 have DO:wR Yk (L.lk y.c.parent) (JC j (Mk.KT y.c.parent)):=se.toR
 refine Qc hb ?_
 simp only[go_sem,simprocAttr,Qa,BA,DN,sg,Qn6,si]
 refine QL hb OY rfl ?_ (Rm DO) rfl fun d hR=>?_
 ·simp only[go_sem,simprocAttr,Qa,BA,DN]
 subst hR
 refine Qc hb ?_
 simp only[go_sem,simprocAttr,Qa,BA,DN]
 by_cases hz:JC j (Mk.KT y.c.parent)=[]
 case neg=>
  have jn:0<(JC j (Mk.KT y.c.parent)).length:=List.length_pos_iff.2 hz
  have dz:decide ((0:Int)<((JC j (Mk.KT y.c.parent)).length:Int))=true:=decide_eq_true (by omega)
  rw[if_neg hz] at GQ
  simp only[go_sem,simprocAttr,Qa,dz]
  exact ⟨Qq,_,Ql.frame (by simp only[go_sem,simprocAttr,Zl]),DM.of (by rw[Zt,GQ];exact qX) yN MK sf⟩
 rw[if_pos hz] at GQ
 have dz:decide ((0:Int)<((JC j (Mk.KT y.c.parent)).length:Int))=false:=decide_eq_false (by rw[hz];simp)
 simp only[go_sem,simprocAttr,Qa,dz,BA,DN]
 refine QL hb OS rfl ?_ (QkA qX.tr.toR (by have:=ML.tree.len;omega) y.c.parent) rfl fun d hR=>?_
 ·simp only[go_sem,simprocAttr,Qa,BA,DN]
 subst hR
 refine Qc hb ?_
 simp only[go_sem,simprocAttr,Qa,BA,DN]
 obtain ⟨V,hV⟩:∃ V,V=KI Mk.T y.c.parent:=⟨_,rfl⟩
 have hVl:V.length≤64:=by
  rw[hV];unfold KI;rw[List.length_map]
  exact Nat.le_trans (List.length_filter_le _ _) Ik.tree.len
 have hVm:∀ c∈V,(Qr Mk.T c).isSome=true:=fun c hc=>by
  rw[hV] at hc
  obtain ⟨x,hx,rfl⟩:=List.mem_map.1 hc
  rw[(KQ Ik.tree.rising).2 ⟨(List.mem_filter.1 hx).1,rfl⟩];rfl
 rw[show KI (Kg Mk j).T y.c.parent=V from hV.symm]
 rw[← hV] at GQ
 refine ZB (GP own h p L (Kg Mk j) lo g row U V k) V.length (Ql.frame (by simp only[go_sem,simprocAttr])) (GP.of (i:=0) qX yN MK sf) ?_
 rintro i _ hi ⟨q4,H5,C5,D5,xq,sj,rfl⟩
 by_cases zk:i<V.length
 case neg=>
  have Wa:i=V.length:=by omega
  have di:=decide_eq_false zk
  rw[Wa,List.take_length] at C5
  refine Qc hb ?_
  simp only[go_sem,simprocAttr,Qa,di]
  refine Qc hb ?_
  simp only[go_sem,simprocAttr,Qa]
  exact ⟨Qq,_,Ql.frame (by simp only[go_sem,simprocAttr,Zl]),DM.of (by rw[Zt,GQ];exact C5) D5 xq sj⟩
 have di:=decide_eq_true zk
 have hwi:=KG (show i<4611686018427387904 by omega)
 obtain ⟨c,hc⟩:∃ c,c=V.getD i 0:=⟨_,rfl⟩
 have hcV:c∈V:=by rw[hc];exact yl V 0 i zk
 have ss:(V.take (i+1)).foldl VA (Kg Mk j)=VA ((V.take i).foldl VA (Kg Mk j)) c:=by
  rw[getD_take V 0 i zk,List.foldl_append,← hc];rfl
 have I5:=Qy.SQ (V.take i) ML
 have su:=(MM (V.take i) (Kg Mk j)).1
 obtain ⟨M5,DP⟩:∃ M5,M5=(V.take i).foldl VA (Kg Mk j):=⟨_,rfl⟩
 rw[← DP] at C5 I5 su ss
 obtain ⟨x,hx⟩:∃ x,Qh M5.N c=some x:=by
  have VE:=hVm c hcV
  rw[show Mk.T=M5.T from su.symm,I5.find] at VE
  cases hq:Qh M5.N c with
  | none=>rw[hq] at VE;cases VE
  | some x=>exact ⟨x,rfl⟩
 have qW:=C5.V8 c x hx
 have MN:=C5.look hx
 have vB:=C5.ob
 have DQ:=Qd vB
 have vz:=C5.JS
 have MO:=Qd vz
 have BB:=(C5.Zy c x hx).1
 have kf:=Qd BB
 have QD:L.le c≠lo:=fun e=>by have h1:=(C5.Zy c x hx).2;rw[e,xq] at h1;cases h1
 refine Qc hb ?_
 simp only[go_sem,simprocAttr,Qa,di,zk,← hc,vB,DQ,vz,MO,MN,BB,kf]
 have C6:=C5.YZ hx (fun n=>{ n with sh:=zW }) (fun _=>rfl) (fun _=>rfl) ⟨qW.ZV,qW.du,r9,qW.cp,qW.c⟩
 have D6:=Q6.set (own:=q4) (h:=H5) (VS (qD L.lq x) { x with sh:=zW }) (l:=L.le c) (by rw[(C5.Zy c x hx).2];simp)
 have kE:(⟨.one,0,60,1,fun _=>List.take 38 (Jn (qD L.lq x) x)++.raw (.bool false)::.raw (.int .u64 0)::.raw (.int .u64 0)::.raw (.int .u64 0)::.raw (.int .u64 0)::.raw (.int .u64 0)::.raw (.int .u64 0)::.raw (.int .u64 0)::.raw (.int .u64 0)::.raw (.bool false)::.raw (.int .u64 0)::List.drop 49 (Jn (qD L.lq x) x)⟩:Ob)=VS (qD L.lq x) { x with sh:=zW }:=by
  unfold VS
  rw[← QnT (qD L.lq x) x zW]
  rfl
 rw[kE]
 refine ⟨_,Ql.frame (by simp only[go_sem,simprocAttr,hwi]),GP.of (by rw[ss];exact C6) (D5.trans D6) xq (by rw[Qt QD];exact sj)⟩
def firstM (M:Qj) (now:Nat) (id:Int):Option It:=(M.KT id).find? fun x=>decide (x.va≤min now 9223372036854775807)
def xr (M:Qj) (now:Nat):Nat→Int→Option Int
 | 0,_=>none
 | n+1,id=>match firstM M now id with
  | none=>none
  | some x=>if (QC M x.ki).c.leaf=true then some x.ki else xr M now n x.ki
def sv (o:Option Int):D:=.tup [Qb (o.getD 0),QN false,QN o.isSome]
def vC (M:Qj) (now:Nat) (o:Option It):Prop:=qL o (M.Lv.filter fun x=>decide (x.ka≤min now 9223372036854775807))
def DS (M:Qj) (now:Nat) (o:Option It):D:=match o with
 | some x=>.tup [Qb x.ki,QN true,QN true]
 | none=>sv (xr M now 17 0)
section
variable {own:Nat→Tag} {h:List Ob} {p:Nat} {L:Loc} {M:Qj} (C:Q4 own h p L M) (I:Qy M)
include C I
theorem Qoa (now:Nat):QQ Tryz.prog 35 h [.ptr p 0 0 0,u64 now] (fun d=>∃ o,vC M now o∧d=DS M now o):=by
 have ho:=Zv C.ob
 have hm:=Zv C.J3
 have Q9:=Zv C.JS
 have hv:=C.Vn.toR
 refine Zh Qe 200 Tryz.func35 rfl Tryz.ntmps35 Tryz.results35 rfl fun base w pl F hF QR hb=>?_
 rw[← hF] at ho hm Q9
 have Qf:=Qd ho
 have QP:=Qd hm
 have Y7:=Qd Q9
 simp only[go_sem,simprocAttr,Qa,ho,Qf,hm,QP,Q9,Y7]
 refine QL hb Qh2 rfl ?_ (QkV (hv.more (JM hF)) now) rfl fun d hR=>?_
 ·simp only[go_sem,simprocAttr,Qa,ho,Qf]
 obtain ⟨o,SU,rfl⟩:=hR
 refine Qc hb ?_
 simp only[go_sem,simprocAttr,Qa,ho,Qf]
 cases o with
 | some x=>
  simp only[go_sem,simprocAttr,Qa,Option.isSome_some,Option.getD_some]
  exact ⟨[],(List.append_nil F).symm,some x,SU,rfl⟩
 | none=>
  simp only[go_sem,simprocAttr,Qa,Option.isSome_none]
  have Quq:(up M.T 0).length=0:=by rw[CN I.tree];rfl
  refine B8 (fun n st=>∃ id,M.ks id=true∧(up M.T id).length+n=16∧xr M now 17 0=xr M now (n+1) id∧st=⟨[(0,.ptr p 0 0 0),(1,u64 now),(9,Qb id)],F⟩) 16 (Ql.frame (by simp only[go_sem,simprocAttr])) ⟨0,(I.ks 0).2 (.inl rfl),by omega,rfl,rfl⟩ ?_
  rintro n _ ⟨id,XE,hlen,zX,rfl⟩
  have Xb:=C.Vo.at_ id
  rw[if_pos XE] at Xb
  have hT:=(C.kids id XE).toR
  conv at zX=>rhs;rw[xr]
  refine Qc hb ?_
  simp only[go_sem,simprocAttr,Qa,ho,Qf,hm,QP,Xb]
  refine QL hb Qh3 rfl ?_ (QkR (hT.more (JM hF)) now) rfl fun d hR=>?_
  ·simp only[go_sem,simprocAttr,Qa,ho,Qf]
  subst hR
  refine Qc hb ?_
  simp only[go_sem,simprocAttr,Qa,ho,Qf]
  have hfm:(M.KT id).find? (fun x=>decide (x.va≤min now 9223372036854775807))=firstM M now id:=rfl
  rw[hfm]
  cases hq:firstM M now id with
  | none=>
   rw[hq] at zX
   simp only[go_sem,simprocAttr,Qa,Option.isSome_none]
   exact ⟨[],(List.append_nil F).symm,none,SU,by unfold DS;rw[zX];rfl⟩
  | some x=>
   rw[hq] at zX
   have SV:x∈M.KT id:=List.mem_of_find?_eq_some hq
   obtain ⟨c,hc,V7⟩:=I.Ya id x SV
   obtain ⟨y,hy,hyc⟩:=I.MD hc
   have Gq:QC M x.ki=y:=by unfold QC;rw[hy];rfl
   have MP:(up M.T x.ki).length=(up M.T id).length+1:=by rw[JQ I.tree hc,V7];rfl
   have h16:(up M.T x.ki).length≤16:=kY
   have YF:=C.look hy
   have he:=Zv (C.Zy x.ki y hy).1
   rw[← hF] at he
   have ZS:=Qd he
   dsimp only at zX
   rw[Gq] at zX
   simp only[go_sem,simprocAttr,Qa,Option.isSome_some,Option.getD_some,ho,Qf,Q9,Y7,YF,he,ZS]
   cases hl:y.c.leaf with
   | true=>
    rw[hl,if_pos rfl] at zX
    simp only[go_sem,simprocAttr,Qa]
    exact ⟨[],(List.append_nil F).symm,none,SU,by unfold DS;rw[zX];rfl⟩
   | false=>
    rw[hl,if_neg (by decide)] at zX
    obtain ⟨n,rfl⟩:∃ n',n=n'+1:=⟨n - 1,by omega⟩
    simp only[go_sem,simprocAttr,Qa]
    exact ⟨n,_,by omega,Ql.frame (by simp only[go_sem,simprocAttr]),x.ki,(I.ks _).2 (.inr ⟨y,hy,hl⟩),by omega,zX,rfl⟩
end
theorem Qoc {T:List Qi} (I:JA T) {id a:Int} {c:Qi} (hc:Qr T id=some c) (hl:c.leaf=true) (h:id∈up T a):a=id:=by
 refine Classical.byContradiction fun QD=>?_
 obtain ⟨i,d,h1,h2,h3⟩:=LC I h QD
 have h0:d.parent≠0:=fun e=>by rw[← h3,e,AT I] at hc;cases hc
 obtain ⟨e,h4,h5⟩:=I.Xn d (qJ I h2) h0
 rw[h3,hc] at h4
 cases h4
 rw[hl] at h5;cases h5
theorem MQ {T:List Qi} (I:JA T) {id:Int} {c:Qi} (hc:Qr T id=some c) (hl:c.leaf=true) (A:List Int):Zu T A id=true↔id∈A:=by
 rw[VM]
 constructor
 ·rintro ⟨a,ha,h⟩
  rw[← Qoc I hc hl h];exact ha
 ·exact fun h=>⟨id,h,Vr I hc⟩
theorem Qod {T:List Qi} (I:JA T) {id:Int} {c:Qi} (hc:Qr T id=some c) (hl:c.leaf=true) (A:List Int):Zu T (Z2 A id) id=false:=by
 rw[Bool.eq_false_iff]
 intro h
 have:=(MQ I hc hl _).1 h
 simp [Z2] at this
def vD (len:Nat) (n:Nd):Nd:={ n with ZV:=Vj (n.ZV+len),sh:=yI n.sh (Vj (n.ZV+len)),cp:=vn n.cp (Vj (n.ZV+len)) }
def KN (len:Nat) (M:Qj) (j:Int):Qj:={ M with N:=Ka M.N j (vD len) }
theorem sw {n:Nd} (h:n.Ok) (len:Nat):(vD len n).Ok:=⟨Bh _,h.du,QlM h.sh _,QlQ h.cp _,h.c⟩
theorem Qy.KN {M:Qj} (I:Qy M) (len:Nat) (j:Int):Qy (KN len M j):=I.Ka j (vD len) fun _=>rfl
theorem Qy.SW {len:Nat}:∀ (l:List Int) {M:Qj},Qy M→Qy (l.foldl (X.KN len) M)
 | [],M,I=>I
 | j::l,M,I=>Qy.SW l (I.KN len j)
theorem MS (len:Nat):∀ (l:List Int) (M:Qj),(l.foldl (KN len) M).T=M.T∧(l.foldl (KN len) M).A=M.A∧(l.foldl (KN len) M).KT=M.KT∧(l.foldl (KN len) M).lk=M.lk∧(l.foldl (KN len) M).Zx=M.Zx∧(l.foldl (KN len) M).acc=M.acc∧(l.foldl (KN len) M).Lv=M.Lv
 | [],M=>⟨rfl,rfl,rfl,rfl,rfl,rfl,rfl⟩
 | j::l,M=>MS len l (KN len M j)
theorem sx {N:List Nd} {j:Int} {f:Nd→Nd} (hc:∀ n,(f n).c=n.c) (i:Int) {n:Nd} (h:Qh N i=some n):∃ m,Qh (Ka N j f) i=some m∧m.c=n.c∧(m=n∨(i=j∧m=f n)):=by
 rw[Wo (fun n=>by rw[hc])]
 by_cases e:i=j
 ·rw[if_pos e,h];exact ⟨f n,rfl,hc n,.inr ⟨e,rfl⟩⟩
 ·rw[if_neg e];exact ⟨n,h,rfl,.inl rfl⟩
theorem sy (len:Nat):∀ (l:List Int) (M:Qj) (i:Int) {n:Nd},Qh M.N i=some n→∃ m,Qh (l.foldl (KN len) M).N i=some m∧m.c=n.c∧m.q=n.q∧m.du=n.du
 | [],M,i,n,h=>⟨n,h,rfl,rfl,rfl⟩
 | j::l,M,i,n,h=>by
  obtain ⟨m,h1,h2,h3⟩:=sx (f:=vD len) (j:=j) (fun _=>rfl) i h
  obtain ⟨m2,h4,h5,h6,h7⟩:=sy len l (KN len M j) i h1
  refine ⟨m2,h4,h5.trans h2,?_,?_⟩
  ·rw[h6];rcases h3 with rfl | ⟨_,rfl⟩ <;> rfl
  ·rw[h7];rcases h3 with rfl | ⟨_,rfl⟩ <;> rfl
def YI (M:Qj) (id:Int):Qj:={ M with N:=Ka M.N id fun n=>{ n with q:=Vl (QC M id).q } }
theorem Qy.YI {M:Qj} (I:Qy M) (id:Int):Qy (YI M id):=I.Ka id (fun n=>{ n with q:=Vl (QC M id).q }) fun _=>rfl
theorem Qy.Vy {M:Qj} (I:Qy M) {id:Int} {n:Nd} (hn:Qh M.N id=Option.some n) (ZR:Int) (r:Bool):Qy (Vy M id ZR r):=by
 unfold X.Vy
 split
 ·refine (I.Ka id (fun n=>{ n with du:=WO (QC M id) ZR r }) fun _=>rfl).lv fun x hx=>?_
  have KD:x.ki=id∨x∈M.Lv:=by
   split at hx
   ·exact GG (List.mem_filter.1 hx).1
   ·exact GG hx
  rcases KD with h | h
  ·rw[h]
   show (Qr M.T id).isSome=true
   rw[I.some hn];rfl
  ·exact I.zU x h
 ·exact I
theorem SX (M:Qj) (id:Int) (ZR:Int) (r:Bool):(Vy M id ZR r).T=M.T∧(Vy M id ZR r).A=M.A∧(Vy M id ZR r).KT=M.KT∧(Vy M id ZR r).lk=M.lk∧(Vy M id ZR r).Zx=M.Zx∧(Vy M id ZR r).acc=M.acc:=by
 unfold Vy;split <;> exact ⟨rfl,rfl,rfl,rfl,rfl,rfl⟩
theorem Qoe (M:Qj) (id:Int) (ZR:Int) (r:Bool) (i:Int) {n:Nd} (h:Qh M.N i=some n):∃ m,Qh (Vy M id ZR r).N i=some m∧m.c=n.c∧m.q=n.q:=by
 unfold Vy
 split
 ·obtain ⟨m,h1,h2,h3⟩:=sx (f:=fun n=>{ n with du:=WO (QC M id) ZR r }) (j:=id) (fun _=>rfl) i h
  exact ⟨m,h1,h2,by rcases h3 with rfl | ⟨_,rfl⟩ <;> rfl⟩
 ·exact ⟨n,h,rfl,rfl⟩
def J7 (M:Qj) (now:Nat) (o:Option It):Option (Int × Bool):=match o with
 | some x=>some (x.ki,true)
 | none=>(xr M now 17 0).map fun id=>(id,false)
def q5 (M:Qj) (id:Int) (r:Bool):Qj:=
 let len:=((QC M id).q.l.headD default).len
 let M3:=Vy ((up M.T id).foldl (KN len.toNat) (YI M id)) id len r
 let M4:=if (Vl (QC M id).q).l=[] then Yd M3 id else M3
 JT M4 (up M.T id)
@[go_sem] def q6 (id:Int) (x:Pk) (r:Bool):List D:=[Qb id,.raw (.int .u64 x.iD),.raw (.int .i64 x.len),.raw (.int .u16 x.Fx),.raw (.int .u16 x.Fy),.raw (.int .u16 x.Fz),.raw (.int .u16 x.FA),QN r]
@[go_sem] def Ye:Ob:=⟨.one,0,8,1,fun _=>q6 0 default false⟩
@[go_sem] def Wr (x:Pk):Ob:=⟨.one,0,6,1,fun _=>x.cells⟩
theorem MT (M:Qj) (now:Nat):(Zq M now).N=M.N∧(Zq M now).T=M.T∧(Zq M now).A=M.A:=by unfold Zq;split <;> exact ⟨rfl,rfl,rfl⟩
theorem BC {M:Qj} (I:Qy M) (now:Nat):Qy (Zq M now):=by
 unfold Zq
 split
 ·rename_i h
  unfold j8 at h
  simp only[Bool.not_eq_true',Bool.or_eq_false_iff,decide_eq_false_iff_not] at h
  exact ⟨I.tree,I.vA,I.to,I.nodes,I.Wp,I.ks,I.zU,I.Ya,I.YG,by show now≤_;omega,I.acc⟩
 ·exact I
structure GR (own:Nat→Tag) (h:List Ob) (p:Nat) (L:Loc) (M:Qj) (id:Int) (r:Bool) (lb:Nat) (x:Pk) (U:List Int) (k:Nat) (s:St):Prop where
 ex:∃ own' H,Q4 own' H p L ((U.take k).foldl (KN x.len.toNat) M)∧Q6 own h own' H∧own' h.length=.no∧H[h.length]? = some Ye∧own' lb=.no∧H[lb]? = some (Wr x) ∧
  s=⟨[(0,.ptr p 0 0 0),(4,.ptr h.length 0 0 0),(6,Qb id),(7,QN r),(9,.ptr (L.le id) 0 0 0),(10,.ptr lb 0 0 0),(53,ints U),(54,Qb U.length),(55,Qb k)],H⟩
theorem GR.of {own:Nat→Tag} {h:List Ob} {p:Nat} {L:Loc} {M:Qj} {id:Int} {r:Bool} {lb:Nat} {x:Pk} {U:List Int} {k:Nat} {own':Nat→Tag} {H:List Ob} (C:Q4 own' H p L ((U.take k).foldl (KN x.len.toNat) M)) (D:Q6 own h own' H) (h1:own' h.length=.no) (h2:H[h.length]? = some Ye) (h3:own' lb=.no) (h4:H[lb]? = some (Wr x)) :
  GR own h p L M id r lb x U k ⟨[(0,.ptr p 0 0 0),(4,.ptr h.length 0 0 0),(6,Qb id),(7,QN r),(9,.ptr (L.le id) 0 0 0),(10,.ptr lb 0 0 0),(53,ints U),(54,Qb U.length),(55,Qb k)],H⟩:=⟨⟨own',H,C,D,h1,h2,h3,h4,rfl⟩⟩
def GS (M:Qj) (now:Nat) (d:D) (M':Qj):Prop:=
 (j8 M now=false∧d=.tup [.agg (q6 0 default false),QN false]∧M'=M) ∨
 (j8 M now=true∧∃ o,vC (Zq M now) now o∧match J7 (Zq M now) now o with
  | none=>d=.tup [.agg (q6 0 default false),QN false]∧M'=Zq M now
  | some (id,r)=>d=.tup [.agg (q6 id ((QC M id).q.l.headD default) r),QN true]∧M'=q5 (Zq M now) id r)
theorem Qof {own:Nat→Tag} {h:List Ob} {p:Nat} {L:Loc} {M:Qj} (C:Q4 own h p L M) (I:Qy M) (now:Nat)
  (SY:∀ o id r,vC (Zq M now) now o→J7 (Zq M now) now o=some (id,r)→∃ n,Qh M.N id=some n∧n.c.leaf=true∧n.q.l≠[]∧(1<QH n.c.ls→id∈M.A)) :
  QG Tryz.prog 14 h [.ptr p 0 0 0,u64 now] (fun d h'=>∃ own' M',Q4 own' h' p L M'∧Qy M'∧Q6 own h own' h'∧GS M now d M'):=by
 have ho:=C.ob
 have C0:=C.xl [Ye]
 have D0:=Q6.app own h [Ye] .no
 have qT:Zg own h .no h.length=.no:=by unfold Zg;rw[if_pos (Nat.le_refl _)]
 have Q9:(h++[Ye])[h.length]? = some Ye:=by rw[Kq rfl];rfl
 refine QW Qe 200 Tryz.func14 rfl Tryz.ntmps14 Tryz.results14 rfl fun base w pl hb=>?_
 have Qf:=Qd ho
 simp only[go_sem,simprocAttr,Qa,ho,Qf,Go.undef]
 refine Q5 hb lW rfl ?_ (rX C0 now) rfl fun d h1 hR=>?_
 ·simp only[go_sem,simprocAttr]
 obtain ⟨rfl,C1,D1⟩:=hR
 have I1:=BC I now
 obtain ⟨t1,t2,t3⟩:=MT M now
 have q7:=D0.trans D1
 have Je:h1[h.length]? = some Ye:=(D1.keep h.length (by simp) qT).trans Q9
 have XF:=Qd Je
 obtain ⟨J4,BD⟩:∃ o,o=Zg own h .no:=⟨_,rfl⟩
 have WW:∀ o,(h1.set h.length o)[h.length]? = some o:=fun o=>Qw XF
 rw[← BD] at q7 C1 qT
 refine Qc hb ?_
 cases ht:j8 M now with
 | false=>
  simp only[go_sem,simprocAttr,Qa,ht,Go.undef,Je,XF,WW]
  have hM:Zq M now=M:=by unfold Zq;rw[ht];rfl
  rw[hM] at C1
  exact ⟨J4,M,C1.loc qT _,I,q7.SD (Nat.le_refl _) _,.inl ⟨ht,rfl,rfl⟩⟩
 | true=>
  simp only[go_sem,simprocAttr,Qa,ht,Go.undef,Je,XF]
  refine QL hb QhM rfl ?_ (Qoa C1 I1 now) rfl fun d hR=>?_
  ·simp only[go_sem,simprocAttr,Qa]
  obtain ⟨o,SZ,rfl⟩:=hR
  refine Qc hb ?_
  have Qog:J7 (Zq M now) now o=none→∃ own' M',Q4 own' (h1.set h.length Ye) p L M'∧Qy M'∧Q6 own h own' (h1.set h.length Ye)∧GS M now (.tup [.agg (q6 0 default false),QN false]) M':=fun hp=>
   ⟨J4,Zq M now,C1.loc qT _,I1,q7.SD (Nat.le_refl _) _,.inr ⟨ht,o,SZ,by rw[hp];exact ⟨rfl,rfl⟩⟩⟩
  have Qoh:∀ id r own' H,J7 (Zq M now) now o=some (id,r)→Q4 own' H p L (q5 (Zq M now) id r)→Qy (q5 (Zq M now) id r)→Q6 own h own' H→GS M now (.tup [.agg (q6 id ((QC M id).q.l.headD default) r),QN true]) (q5 (Zq M now) id r):=fun id r own' H hp _ _ _=>
   .inr ⟨ht,o,SZ,by rw[hp];exact ⟨rfl,rfl⟩⟩
  obtain ⟨id,r,QX,hp⟩ | hp:(∃ id r,DS (Zq M now) now o=.tup [Qb id,QN r,QN true]∧J7 (Zq M now) now o=some (id,r))∨(DS (Zq M now) now o=.tup [Qb 0,QN false,QN false]∧J7 (Zq M now) now o=none):=by
   cases o with
   | some x=>exact .inl ⟨x.ki,true,rfl,rfl⟩
   | none=>
    unfold DS sv J7
    dsimp only
    cases xr (Zq M now) now 17 0 with
    | none=>exact .inr ⟨rfl,rfl⟩
    | some i=>exact .inl ⟨i,false,rfl,rfl⟩
  case inr=>
   obtain ⟨hd,hp⟩:=hp
   rw[hd]
   simp only[go_sem,simprocAttr,Qa,Je,XF,WW]
   exact Qog hp
  rw[QX]
  obtain ⟨n,hn,hl,hq,VI⟩:=SY o id r SZ hp
  have Jb:Qh (Zq M now).N id=some n:=by rw[t1];exact hn
  have ZI:QC M id=n:=by unfold QC;rw[hn];rfl
  have GU:QC (Zq M now) id=n:=by unfold QC;rw[Jb];rfl
  obtain ⟨x,q,DT⟩:∃ x q,n.q.l=x::q:=by
   cases zQ:n.q.l with
   | nil=>exact absurd zQ hq
   | cons x q=>exact ⟨x,q,rfl⟩
  have YF:=C1.look Jb
  have Zn:=C1.ob
  have K7:=Qd Zn
  have WY:=C1.JS
  have MU:=Qd WY
  have kb:=(C1.Zy id n Jb).1
  have DK:=Qd kb
  obtain ⟨kq,Bw,hQ⟩:=C1.K5 id n Jb hl
  have DH:=Qy.id hn
  have xo:qD L.lq n=.ptr (L.lq id) 0 0 0:=by unfold qD;rw[if_pos hl,DH]
  rw[xo] at kb
  simp only[go_sem,simprocAttr,Qa,Zn,K7,WY,MU,YF,kb,DK]
  refine Q5 hb QhN rfl ?_ (QlF hQ DT) rfl fun d h2 hR=>?_
  ·simp only[go_sem,simprocAttr]
  obtain ⟨rfl,Q2,s2⟩:=hR
  have C2:=C1.Wl Jb hl Bw Q2 s2
  have S1:{ Zq M now with N:=Ka (Zq M now).N id fun m=>{ m with q:=Vl n.q } }=YI (Zq M now) id:=by unfold YI;rw[GU]
  rw[S1] at C2
  have D2:=q7.trans (Q6.of (t:=.Wl id) (by simp) s2)
  have ZZ:h2[h.length]? = some Ye:=(s2.keep h.length XF (by rw[qT];simp)).trans Je
  have V3:Zg J4 h1 (.Wl id) h.length=.no:=by rw[qo XF];exact qT
  have Jd:=s2.len
  have C3:=C2.xl [Wr x]
  have D3:=D2.trans (Q6.app _ h2 [Wr x] .no)
  have Yc:(h2++[Wr x])[h.length]? = some Ye:=(QU (Qd ZZ)).trans ZZ
  have yx:Zg (Zg J4 h1 (.Wl id)) h2 .no h.length=.no:=by rw[qo (Qd ZZ)];exact V3
  have wT:(h2++[Wr x])[h2.length]? = some (Wr x):=by rw[Kq rfl];rfl
  have sA:Zg (Zg J4 h1 (.Wl id)) h2 .no h2.length=.no:=by unfold Zg;rw[if_pos (Nat.le_refl _)]
  have I3:=I1.YI id
  have Vz:=C3.ob
  have Yb:=Qd Vz
  generalize S3:h2++[Wr x]=H3 at C3 D3 Yc wT Vz Yb
  generalize Zg (Zg J4 h1 (.Wl id)) h2 .no=BE at C3 D3 yx sA
  refine Qc hb ?_
  simp only[go_sem,simprocAttr,Qa]
  have S4:h2++[(⟨.one,0,6,1,fun _=>[.raw (.int .u64 x.iD),.raw (.int .i64 x.len),.raw (.int .u16 x.Fx),.raw (.int .u16 x.Fy),.raw (.int .u16 x.Fz),.raw (.int .u16 x.FA)]⟩:Ob)]=H3:=S3
  simp only[S4]
  simp only[go_sem,simprocAttr,Qa,Vz,Yb]
  refine QL hb Lb rfl ?_ (P5 C3.tr.toR I3.tree.toTreeInv id) rfl fun d hR=>?_
  ·simp only[go_sem,simprocAttr,Qa,Vz,Yb]
  subst hR
  refine Qc hb ?_
  simp only[go_sem,simprocAttr,Qa,Vz,Yb]
  obtain ⟨U,hU⟩:∃ U,U=up M.T id:=⟨_,rfl⟩
  have hU3:ZG (YI (Zq M now) id).T 16 id=U:=by rw[hU];show up (Zq M now).T id=_;rw[t2]
  rw[hU3]
  have MF:U.length≤16:=by rw[hU];exact kY
  obtain ⟨M3,WQ⟩:∃ M3,M3=YI (Zq M now) id:=⟨_,rfl⟩
  have sB:M3.T=M.T:=by rw[WQ];exact t2
  have Qoj:M3.A=M.A:=by rw[WQ];exact t3
  rw[← WQ] at C3 I3
  have KD:Dm x:=by
   obtain ⟨r2,Q⟩:=hQ
   exact Q.lens x (by rw[DT];simp)
  have ex:IntKind.u64.wrap x.len=((x.len.toNat:Nat):Int):=Bi (by have:=KD.1;omega) (by have:=KD.2;omega)
  obtain ⟨n3,Qok,sC,Qol⟩:∃ m,Qh M3.N id=some m∧m.c=n.c∧m.q=Vl n.q:=by
   rw[WQ]
   unfold YI
   rw[GU]
   refine ⟨{ n with q:=Vl n.q },?_,rfl,rfl⟩
   rw[Wo (f:=fun m=>{ m with q:=Vl n.q }) (fun _=>rfl),if_pos rfl,Jb];rfl
  refine ZB (GR own h p L M3 id r h2.length x U) U.length (Ql.frame (by simp only[go_sem,simprocAttr])) (GR.of (k:=0) C3 D3 yx Yc sA wT) ?_
  rintro k _ hk ⟨q4,H5,C5,D5,MV,vz,MW,DU,rfl⟩
  have MO:=Qd vz
  have MX:=Qd DU
  have I5:=Qy.SW (len:=x.len.toNat) (U.take k) I3
  obtain ⟨kT,kA,kK,klk,kc,ka,kL⟩:=MS x.len.toNat (U.take k) M3
  by_cases Qq:k<U.length
  case pos=>
   have dk:=decide_eq_true Qq
   obtain ⟨j,hj⟩:∃ j,j=U.getD k 0:=⟨_,rfl⟩
   have xp:j∈up M.T id:=by rw[hj,← hU];exact yl U 0 k Qq
   have Zt:(U.take (k+1)).foldl (KN x.len.toNat) M3=KN x.len.toNat ((U.take k).foldl (KN x.len.toNat) M3) j:=by
    rw[getD_take U 0 k Qq,List.foldl_append,← hj];rfl
   obtain ⟨M5,DP⟩:∃ M5,M5=(U.take k).foldl (KN x.len.toNat) M3:=⟨_,rfl⟩
   rw[← DP] at C5 I5 kT Zt
   obtain ⟨y,hy⟩:∃ y,Qh M5.N j=some y:=by
    have VE:=AU xp
    rw[← sB,← kT,I5.find] at VE
    cases hq:Qh M5.N j with
    | none=>rw[hq] at VE;cases VE
    | some y=>exact ⟨y,rfl⟩
   have qY:=C5.V8 j y hy
   have MN:=C5.look hy
   have vB:=C5.ob
   have DQ:=Qd vB
   have GV:=C5.JS
   have MY:=Qd GV
   have BB:=(C5.Zy j y hy).1
   have kf:=Qd BB
   have xq:=(C5.Zy j y hy).2
   have Zl:=KG (show k<4611686018427387904 by omega)
   have nb:L.le j≠h.length:=fun e=>by rw[e,MV] at xq;cases xq
   have nx:L.le j≠h2.length:=fun e=>by rw[e,MW] at xq;cases xq
   have zY:∀ s,(H5.set (L.le j) ⟨.one,0,60,1,fun _=>Jn (qD L.lq y) s⟩)[L.le j]? = some ⟨.one,0,60,1,fun _=>Jn (qD L.lq y) s⟩:=fun s=>Qw kf
   have yE:∀ s,(H5.set (L.le j) s)[h2.length]? = some (Wr x):=fun s=>(Qt nx).trans DU
   refine Qc hb ?_
   simp only[go_sem,simprocAttr,Qa,dk,Qq,← hj,vB,DQ,GV,MY,MN]
   refine QA Qe hb 200 mixed [(0,true),(1,true),(2,true),(3,true),(4,true),(5,true),(6,true),(7,true),(8,true),(9,true),(10,false)] (by kernel_rfl) (by kernel_rfl) ?_
   simp only[go_sem,simprocAttr,Qa,BB,kf,DU,MX,ex,Bj]
   have hT1:=QlO y.sh qY.sh (Vj (y.ZV+x.len.toNat)) (Bh _)
   have BF:=RN y.cp qY.cp (Vj (y.ZV+x.len.toNat)) (Bh _)
   refine QA Qe hb 200 mixed [(0,true),(1,true),(2,true),(3,true),(4,true),(5,true),(6,true),(7,true),(8,true),(9,false),(10,true),(11,true),(12,false)] (by kernel_rfl) (by kernel_rfl) ?_
   simp only[go_sem,simprocAttr,Qa,zY,kf]
   refine Zo hb QhO rfl ?_ hT1 (Qm.flat rfl) rfl fun d h hR=>?_
   ·simp only[go_sem,simprocAttr,Qa,zY,kf]
   obtain ⟨rfl,rfl⟩:=hR
   refine QF hb ?_
   simp only[go_sem,simprocAttr,Qa,zY,kf]
   refine QA Qe hb 200 mixed [(0,true),(1,true),(2,true),(3,true),(4,true),(5,true),(6,true),(7,true),(8,true),(9,false),(10,true),(11,true),(12,false)] (by kernel_rfl) (by kernel_rfl) ?_
   simp only[go_sem,simprocAttr,Qa,zY,kf]
   refine Zo hb OT rfl ?_ BF (Qm.flat rfl) rfl fun d h hR=>?_
   ·simp only[go_sem,simprocAttr,Qa,zY,kf]
   obtain ⟨rfl,rfl⟩:=hR
   refine QF hb ?_
   simp only[go_sem,simprocAttr,Qa,zY,kf]
   have C6:=C5.YZ hy (vD x.len.toNat) (fun _=>rfl) (fun _=>rfl) (sw qY _)
   have D6:=Q6.set (own:=q4) (h:=H5) (VS (qD L.lq y) (vD x.len.toNat y)) (l:=L.le j) (by rw[xq];simp)
   refine ⟨Qq,_,Ql.frame (by simp only[go_sem,simprocAttr,Zl]),GR.of (by rw[Zt];exact C6) (D5.trans D6) MV (by rw[Qt nb];exact vz) MW (by rw[Qt nx];exact DU)⟩
  have Z1:k=U.length:=by omega
  have dk:=decide_eq_false Qq
  rw[Z1,List.take_length] at C5 I5 kT kA
  obtain ⟨M5,DP⟩:∃ M5,M5=U.foldl (KN x.len.toNat) M3:=⟨_,rfl⟩
  obtain ⟨n5,DV,sD,Qon,_⟩:=sy x.len.toNat U M3 id Qok
  rw[← DP] at C5 I5 kT kA DV
  have sE:n5.c.leaf=true:=by rw[sD,sC];exact hl
  have MN:=C5.look DV
  have vB:=C5.ob
  have DQ:=Qd vB
  have BB:=(C5.Zy id n5 DV).1
  have kf:=Qd BB
  refine Qc hb ?_
  simp only[go_sem,simprocAttr,Qa,dk]
  refine Qc hb ?_
  simp only[go_sem,simprocAttr,Qa,DU,MX]
  refine Q5 hb QhP rfl ?_ (QnX C5 I5 DV sE x.len (by have:=KD.1;omega) (by have:=KD.2;omega) r) rfl fun d H6 hR=>?_
  ·simp only[go_sem,simprocAttr]
  obtain ⟨sF,C6,D6⟩:=hR
  have I6:=I5.Vy DV x.len r
  obtain ⟨sG,sH,_⟩:=SX M5 id x.len r
  obtain ⟨n6,GW,sI,Qoo⟩:=Qoe M5 id x.len r id DV
  obtain ⟨M6,sJ⟩:∃ M6,M6=Vy M5 id x.len r:=⟨_,rfl⟩
  rw[← sJ] at C6 I6 sG sH GW
  have qR:H6[h.length]? = some Ye:=(D6.keep _ MO MV).trans vz
  have MZ:sF h.length=.no:=(D6.same _ MO).trans MV
  have yE:H6[h2.length]? = some (Wr x):=(D6.keep _ MX MW).trans DU
  have S5:sF h2.length=.no:=(D6.same _ MX).trans MW
  have M7:=Qd qR
  have Dh:=Qd yE
  have sK:=D5.trans D6
  have jU:n6.c.leaf=true:=by rw[sI];exact sE
  have hq6:n6.q=Vl n.q:=by rw[Qoo,Qon,Qol]
  have sL:n6.c=n.c:=by rw[sI,sD,sC]
  have X8:=C6.ob
  have Wh:=Qd X8
  have zY:=(C6.Zy id n6 GW).1
  have S7:=Qd zY
  have Qoq:qD L.lq n6=.ptr (L.lq id) 0 0 0:=by unfold qD;rw[if_pos jU,sL,DH]
  rw[Qoq] at zY
  obtain ⟨kq6,Quu,hQ6⟩:=C6.K5 id n6 GW jU
  have S8:n6.q.l.length=q.length:=by rw[hq6];unfold Vl;rw[DT];rfl
  have Ks:Qr M6.T id=some n6.c:=I6.some GW
  have vU:q5 (Zq M now) id r=JT (if (Vl n.q).l=[] then Yd M6 id else M6) (up (Zq M now).T id):=by
   unfold q5
   simp only[GU,DT,List.headD_cons]
   rw[show up (Zq M now).T id=U by rw[t2];exact hU.symm,← WQ,← DP,← sJ]
  have S9:M6.T=M.T:=by rw[sG,kT,sB]
  have hA6:M6.A=M.A:=by rw[sH,kA,Qoj]
  refine Qc hb ?_
  simp only[go_sem,simprocAttr,Qa,X8,Wh,zY,S7]
  refine QL hb Cz rfl ?_ (Dq hQ6.toR) rfl fun d hR=>?_
  ·simp only[go_sem,simprocAttr,Qa,X8,Wh,zY,S7,S8]
  subst hR
  refine Qc hb ?_
  simp only[go_sem,simprocAttr,Qa,X8,Wh,zY,S7,S8]
  have LO:∀ zZ H8,Q4 zZ H8 p L (q5 (Zq M now) id r)→Qy (q5 (Zq M now) id r)→Q6 own h zZ H8→H8[h.length]? = some Ye→zZ h.length=.no →
    ∃ own' M',Q4 own' (H8.set h.length ⟨.one,0,8,1,fun _=>q6 id x r⟩) p L M'∧Qy M'∧Q6 own h own' (H8.set h.length ⟨.one,0,8,1,fun _=>q6 id x r⟩)∧GS M now (.tup [.agg (q6 id x r),QN true]) M':=fun zZ H8 C8 I8 D8 yP GX=>
   ⟨zZ,_,C8.loc GX _,I8,D8.SD (Nat.le_refl _) _,by
    have:=Qoh id r zZ H8 hp C8 I8 D8
    rwa [ZI,DT,List.headD_cons] at this⟩
  have hqz:(Vl n.q).l=q:=by unfold Vl;rw[DT];rfl
  rw[hqz] at vU
  cases Na:q with
  | cons z q2=>
   have dz:(((q2.length+1:Nat):Int) == 0)=false:=Vq (by omega)
   rw[Na,if_neg (by simp)] at vU
   have ZH:=SI C6 I6 id
   rw[S9,← t2,← vU] at ZH
   simp only[go_sem,simprocAttr,Qa,Na,dz]
   refine Q5 hb OU rfl ?_ ZH rfl fun d H8 hR=>?_
   ·simp only[go_sem,simprocAttr]
   obtain ⟨zZ,C8,I8,D8⟩:=hR
   have yP:H8[h.length]? = some Ye:=(D8.keep _ M7 MZ).trans qR
   have GY:H8[h2.length]? = some (Wr x):=(D8.keep _ Dh S5).trans yE
   have GX:zZ h.length=.no:=(D8.same _ M7).trans MZ
   have GZ:=Qd yP
   have Ta:=Qd GY
   have Tb:∀ o,(H8.set h.length o)[h.length]? = some o:=fun o=>Qw GZ
   refine Qc hb ?_
   simp only[go_sem,simprocAttr,Qa,yP,GZ,GY,Ta,Tb]
   exact LO zZ H8 C8 I8 (sK.trans D8) yP GX
  | nil=>
   rw[Na,if_pos rfl] at vU
   simp only[go_sem,simprocAttr,Qa,Na]
   refine Q5 hb QhQ rfl ?_ (Qn5 C6 I6 GW jU (by rw[sL,hA6];exact VI) (Qod I6.tree Ks jU _)) rfl fun d H7 hR=>?_
   ·simp only[go_sem,simprocAttr]
   obtain ⟨WR,C7,I7,D7⟩:=hR
   have sM:H7[h.length]? = some Ye:=(D7.keep _ M7 MZ).trans qR
   have sN:H7[h2.length]? = some (Wr x):=(D7.keep _ Dh S5).trans yE
   have sO:WR h.length=.no:=(D7.same _ M7).trans MZ
   have Qou:WR h2.length=.no:=(D7.same _ Dh).trans S5
   have sP:=Qd sM
   have Qov:=Qd sN
   have ZH:=SI C7 I7 id
   have hT7:(Yd M6 id).T=M.T:=by
    unfold Yd
    split
    ·rw[(GO _ _).1];exact S9
    ·exact S9
   rw[hT7,← t2,← vU] at ZH
   refine Qc hb ?_
   simp only[go_sem,simprocAttr,Qa]
   refine Q5 hb OU rfl ?_ ZH rfl fun d H8 hR=>?_
   ·simp only[go_sem,simprocAttr]
   obtain ⟨zZ,C8,I8,D8⟩:=hR
   have yP:H8[h.length]? = some Ye:=(D8.keep _ sP sO).trans sM
   have GY:H8[h2.length]? = some (Wr x):=(D8.keep _ Qov Qou).trans sN
   have GX:zZ h.length=.no:=(D8.same _ sP).trans sO
   have GZ:=Qd yP
   have Ta:=Qd GY
   have Tb:∀ o,(H8.set h.length o)[h.length]? = some o:=fun o=>Qw GZ
   refine Qc hb ?_
   simp only[go_sem,simprocAttr,Qa,yP,GZ,GY,Ta,Tb]
   exact LO zZ H8 C8 I8 ((sK.trans D7).trans D8) yP GX
structure xu (c:Cf):Prop where
 t1:1≤c.t
 t2:c.t≤65536
 l1:1≤c.VJ
 l2:c.VJ≤16384
def JG (M:Qj) (id:Int) (x:Pk):Qj:={ M with N:=Ka M.N id fun m=>{ m with q:=Kx (QC M id).c.Za (QC M id).c.bytes (QC M id).q x } }
def Ws (M:Qj) (a:Nat):Qj:={ M with acc:=a }
def Kh (M:Qj) (cls:Int) (x:Pk):Int:=
 match Qh M.N cls with
 | none=>23
 | some n=>if n.c.leaf=false then 29 else if x.len<1∨M.lk.VJ<x.len then 26 else if 1099511627776<M.acc+x.len.toNat then 28
  else if WK n.c.Za n.c.bytes n.q x=true then 30 else 0
def VT (M:Qj) (now:Nat) (cls:Int) (x:Pk):Qj:=
 if Kh M cls x=30 then JG M cls x
 else if Kh M cls x=0 then (if (QC M cls).q.l=[] then j9 (Ws (JG M cls x) (M.acc+x.len.toNat)) now cls x.len else Ws (JG M cls x) (M.acc+x.len.toNat))
 else M
theorem Qy.JG {M:Qj} (I:Qy M) (id:Int) (x:Pk):Qy (JG M id x):=I.Ka id (fun m=>{ m with q:=Kx (QC M id).c.Za (QC M id).c.bytes (QC M id).q x }) fun _=>rfl
theorem Qy.Ws {M:Qj} (I:Qy M) {a:Nat} (h:a≤1099511627776):Qy (Ws M a):=⟨I.tree,I.vA,I.to,I.nodes,I.Wp,I.ks,I.zU,I.Ya,I.YG,I.Zx,h⟩
theorem sQ (M:Qj) (now:Nat):(Zq M now).lk=M.lk∧(Zq M now).acc=M.acc:=by unfold Zq;split <;> exact ⟨rfl,rfl⟩
def yQ (M:Qj) (now:Nat) (cls:Int) (x:Pk):Int:=if j8 M now=true then Kh (Zq M now) cls x else 27
def XG (M:Qj) (now:Nat) (cls:Int) (x:Pk):Qj:=if j8 M now=true then VT (Zq M now) now cls x else M
theorem Qox {own:Nat→Tag} {h:List Ob} {p:Nat} {L:Loc} {M:Qj} (C:Q4 own h p L M) (I:Qy M) (K:xu M.lk) (now:Nat) (Wq:now<18446744073709551616) (cls:Int) (x:Pk)
  (hA:∀ n,Qh M.N cls=some n→n.c.leaf=true→n.q.l=[]→cls ∉ M.A) :
  QG Tryz.prog 16 h [.ptr p 0 0 0,u64 now,Qb cls,.agg x.cells] (fun d h'=>∃ own' M',Q4 own' h' p L M'∧Qy M'∧Q6 own h own' h' ∧
   d=Qb (yQ M now cls x)∧M'=XG M now cls x):=by
 have ho:=C.ob
 have C0:=C.xl [Wr x]
 have D0:=Q6.app own h [Wr x] .no
 have qT:Zg own h .no h.length=.no:=by unfold Zg;rw[if_pos (Nat.le_refl _)]
 have Q9:(h++[Wr x])[h.length]? = some (Wr x):=by rw[Kq rfl];rfl
 refine QW Qe 200 Tryz.func16 rfl Tryz.ntmps16 Tryz.results16 rfl fun base w pl hb=>?_
 have Qf:=Qd ho
 simp only[go_sem,simprocAttr,Qa,ho,Qf]
 refine Q5 hb lW rfl ?_ (rX C0 now) rfl fun d h1 hR=>?_
 ·simp only[go_sem,simprocAttr]
 obtain ⟨rfl,C1,D1⟩:=hR
 have I1:=BC I now
 obtain ⟨t1,t2,t3⟩:=MT M now
 obtain ⟨t4,t5⟩:=sQ M now
 have q7:=D0.trans D1
 have Je:h1[h.length]? = some (Wr x):=(D1.keep h.length (by simp) qT).trans Q9
 have XF:=Qd Je
 obtain ⟨J4,BD⟩:∃ o,o=Zg own h .no:=⟨_,rfl⟩
 rw[← BD] at q7 C1 qT
 have Zn:=C1.ob
 have K7:=Qd Zn
 have WY:=C1.JS
 have MU:=Qd WY
 refine Qc hb ?_
 cases ht:j8 M now with
 | false=>
  have hM:Zq M now=M:=by unfold Zq;rw[ht];rfl
  rw[hM] at C1
  simp only[go_sem,simprocAttr,Qa,ht]
  exact ⟨J4,M,C1,I,q7,by rw[show yQ M now cls x=27 from if_neg (by rw[ht];exact Bool.false_ne_true)],(if_neg (by rw[ht];exact Bool.false_ne_true)).symm⟩
 | true=>
  have qI:∀ own' H M',Q4 own' H p L M'→Qy M'→Q6 own h own' H→M'=VT (Zq M now) now cls x→∀ e,Kh (Zq M now) cls x=e→∃ own' M',Q4 own' H p L M'∧Qy M'∧Q6 own h own' H∧Qb e=Qb (yQ M now cls x)∧M'=XG M now cls x:=
   fun own' H M' h1 h2 h3 h4 e he=>⟨own',M',h1,h2,h3,by rw[← he];unfold yQ;rw[if_pos ht],by unfold XG;rw[if_pos ht];exact h4⟩
  obtain ⟨M1,p6⟩:∃ M1,M1=Zq M now:=⟨_,rfl⟩
  rw[← p6] at C1 I1 t1 t2 t3 t4 t5 qI Zn
  cases hf:Qh M1.N cls with
  | none=>
   have hk:=C1.Wm.at_ cls
   rw[hf,Option.map_none] at hk
   have hE:Kh M1 cls x=23:=by unfold Kh;rw[hf]
   have hP:VT M1 now cls x=M1:=by unfold VT;rw[hE];rfl
   simp only[go_sem,simprocAttr,Qa,ht,Zn,K7,WY,MU,hk]
   exact qI J4 h1 M1 C1 I1 q7 hP.symm 23 hE
  | some n=>
   have hk:=C1.look hf
   have kb:=(C1.Zy cls n hf).1
   have DK:=Qd kb
   have DH:=Qy.id hf
   simp only[go_sem,simprocAttr,Qa,ht,Zn,K7,WY,MU,hk,kb,DK]
   cases hl:n.c.leaf with
   | false=>
    have hE:Kh M1 cls x=29:=by unfold Kh;rw[hf];simp [hl]
    have hP:VT M1 now cls x=M1:=by unfold VT;rw[hE];rfl
    simp only[go_sem,simprocAttr,Qa]
    exact qI J4 h1 M1 C1 I1 q7 hP.symm 29 hE
   | true=>
    have Quv:=Je
    have WW:∀ o,(h1.set h.length o)[h.length]? = some o:=fun o=>Qw XF
    obtain ⟨kq,Bw,hQ⟩:=C1.K5 cls n hf hl
    have xo:qD L.lq n=.ptr (L.lq cls) 0 0 0:=by unfold qD;rw[if_pos hl,DH]
    rw[xo] at kb
    have ZI:QC M1 cls=n:=by unfold QC;rw[hf];rfl
    have K1:xu M1.lk:=by rw[t4];exact K
    have Ze:=K1.l1
    have Jd:=K1.l2
    have Qoy:=I1.acc
    have fE:(x.len<1∨M1.lk.VJ<x.len)→Kh M1 cls x=26:=fun h=>by unfold Kh;rw[hf];simp only[hl];rw[if_neg (by simp),if_pos h]
    have fP:(x.len<1∨M1.lk.VJ<x.len)→VT M1 now cls x=M1:=fun h=>by unfold VT;rw[fE h];rfl
    cases d1:decide (x.len<1) with
    | true=>
     have:=of_decide_eq_true d1
     simp only[go_sem,simprocAttr,Qa]
     refine QA Qe hb 200 mixed [(0,true),(1,true),(2,true),(3,true),(4,true),(5,true),(6,true),(7,true),(8,true),(9,true),(10,true),(11,true),(12,true),(13,true)] (by kernel_rfl) (by kernel_rfl) ?_
     simp only[go_sem,simprocAttr,Qa,Je,XF,Zn,K7,d1]
     exact qI J4 h1 M1 C1 I1 q7 (fP (.inl this)).symm 26 (fE (.inl this))
    | false=>
     have x1:1≤x.len:=by have:=of_decide_eq_false d1;omega
     cases d2:decide (M1.lk.VJ<x.len) with
     | true=>
      have:=of_decide_eq_true d2
      simp only[go_sem,simprocAttr,Qa]
      refine QA Qe hb 200 mixed [(0,true),(1,true),(2,true),(3,true),(4,true),(5,true),(6,true),(7,true),(8,true),(9,true),(10,true),(11,true),(12,true),(13,true)] (by kernel_rfl) (by kernel_rfl) ?_
      simp only[go_sem,simprocAttr,Qa,Je,XF,Zn,K7,d1,d2]
      exact qI J4 h1 M1 C1 I1 q7 (fP (.inr this)).symm 26 (fE (.inr this))
     | false=>
      have x2:x.len≤M1.lk.VJ:=by have:=of_decide_eq_false d2;omega
      have hx:Dm x:=⟨x1,by omega⟩
      have Po:(x.len.toNat:Int)=x.len:=Int.toNat_of_nonneg (by omega)
      obtain ⟨a,ha⟩:∃ a,a=x.len.toNat:=⟨_,rfl⟩
      rw[← ha] at Po
      have ex:IntKind.u64.wrap x.len=(a:Int):=by rw[ha];exact Bi (by omega) (by omega)
      have ew:IntKind.u64.wrap ((M1.acc:Int)+(a:Int))=((M1.acc+a:Nat):Int):=by rw[Bi (by omega) (by omega)];omega
      have ge:¬ (x.len<1∨M1.lk.VJ<x.len):=by omega
      cases d3:decide ((1099511627776:Int)<((M1.acc+a:Nat):Int)) with
      | true=>
       have d3':=of_decide_eq_true d3
       have hE:Kh M1 cls x=28:=by unfold Kh;rw[hf];simp only[hl];rw[if_neg (by simp),if_neg ge,if_pos (by rw[← ha];omega)]
       have hP:VT M1 now cls x=M1:=by unfold VT;rw[hE];rfl
       simp only[go_sem,simprocAttr,Qa]
       refine QA Qe hb 200 mixed [(0,true),(1,true),(2,true),(3,true),(4,true),(5,true),(6,true),(7,true),(8,true),(9,true),(10,true),(11,true),(12,true),(13,true)] (by kernel_rfl) (by kernel_rfl) ?_
       simp only[go_sem,simprocAttr,Qa,Je,XF,Zn,K7,d1,d2]
       refine QA Qe hb 200 mixed [(0,true),(1,true),(2,true),(3,true),(4,true),(5,true),(6,true),(7,true),(8,true),(9,true)] (by kernel_rfl) (by kernel_rfl) ?_
       simp only[go_sem,simprocAttr,Qa,Je,XF,Zn,K7,ex,ew,d3]
       exact qI J4 h1 M1 C1 I1 q7 hP.symm 28 hE
      | false=>
       have d3':=of_decide_eq_false d3
       simp only[go_sem,simprocAttr,Qa]
       refine QA Qe hb 200 mixed [(0,true),(1,true),(2,true),(3,true),(4,true),(5,true),(6,true),(7,true),(8,true),(9,true),(10,true),(11,true),(12,true),(13,true)] (by kernel_rfl) (by kernel_rfl) ?_
       simp only[go_sem,simprocAttr,Qa,Je,XF,Zn,K7,d1,d2]
       refine QA Qe hb 200 mixed [(0,true),(1,true),(2,true),(3,true),(4,true),(5,true),(6,true),(7,true),(8,true),(9,true)] (by kernel_rfl) (by kernel_rfl) ?_
       simp only[go_sem,simprocAttr,Qa,Je,XF,Zn,K7,ex,ew,d3]
       refine VY [5] Qe hb 200 mixed [(0,true),(1,true),(2,true),(3,true),(4,true),(5,false),(6,true)] [] (by kernel_rfl) (by kernel_rfl) ?_
       simp only[go_sem,simprocAttr,Qa,Je,XF,kb,DK]
       refine Wf hb QhT rfl ?_ (QlE hQ x hx) rfl fun d h2 hR=>?_
       ·simp only[go_sem,simprocAttr]
       obtain ⟨rfl,Q2,s2⟩:=hR
       have V3:Zg J4 h1 (.Wl cls) h.length=.no:=by rw[qo XF];exact qT
       have ZZ:h2[h.length]? = some (Wr x):=(s2.keep h.length XF (by rw[qT];simp)).trans Je
       have QoA:=Qd ZZ
       have C2:=C1.Wl hf hl Bw Q2 s2
       have D2:=q7.trans (Q6.of (t:=.Wl cls) (by simp) s2)
       have S1:{ M1 with N:=Ka M1.N cls fun m=>{ m with q:=Kx kq n.c.bytes n.q x } }=JG M1 cls x:=by unfold JG;rw[ZI,Bw]
       rw[S1] at C2
       have I2:=I1.JG cls x
       have XZ:∀ b,WK kq n.c.bytes n.q x=b→Kh M1 cls x=if b=true then 30 else 0:=fun b hb=>by
        unfold Kh;rw[hf];simp only[hl];rw[if_neg (by simp),if_neg ge,if_neg (by rw[← ha];omega),Bw,hb]
       generalize Zg J4 h1 (.Wl cls)=Xc at C2 D2 V3
       refine QF hb ?_
       cases Tc:WK kq n.c.bytes n.q x with
       | true=>
        have hE:Kh M1 cls x=30:=XZ _ Tc
        have hP:VT M1 now cls x=JG M1 cls x:=by unfold VT;rw[hE];rfl
        simp only[go_sem,simprocAttr,Qa]
        exact qI Xc h2 _ C2 I2 D2 hP.symm 30 hE
       | false=>
        have hE:Kh M1 cls x=0:=XZ _ Tc
        have XI:=C2.ob
        have DL:=Qd XI
        have QoB:(JG M1 cls x).acc=M1.acc:=rfl
        have QoC:(JG M1 cls x).lk=M1.lk:=rfl
        have QoD:(JG M1 cls x).Zx=M1.Zx:=rfl
        have C3:Q4 Xc (h2.set p (XD M1.lk L.t L.b L.o L.v L.m M1.Zx (M1.acc+a))) p L (Ws (JG M1 cls x) (M1.acc+a)):=C2.Zx M1.Zx (M1.acc+a)
        have I3:Qy (Ws (JG M1 cls x) (M1.acc+a)):=I2.Ws (by omega)
        have D3:=D2.trans (Q6.set (own:=Xc) (h:=h2) (l:=p) (XD M1.lk L.t L.b L.o L.v L.m M1.Zx (M1.acc+a)) (by rw[C2.op];decide))
        have hnp:p≠h.length:=fun e=>by have:=C2.op;rw[e,V3] at this;cases this
        have Yc:(h2.set p (XD M1.lk L.t L.b L.o L.v L.m M1.Zx (M1.acc+a)))[h.length]? = some (Wr x):=(Qt hnp).trans ZZ
        have yO:=Qd Yc
        generalize S3:h2.set p (XD M1.lk L.t L.b L.o L.v L.m M1.Zx (M1.acc+a))=H3 at C3 D3 Yc yO
        have S4:h2.set p ⟨.one,0,9,1,fun _=>[.raw (.int .i64 M1.lk.t),.raw (.int .i64 M1.lk.VJ),.ptr L.t 0 0 0,.mref L.b 0,.ptr L.o 0 0 0,.ptr L.v 0 0 0,.mref L.m 0,.raw (.int .u64 (M1.Zx:Nat)),.raw (.int .u64 ((M1.acc+a:Nat):Int))]⟩=H3:=S3
        have yx:Qh (Ws (JG M1 cls x) (M1.acc+a)).N cls=some { n with q:=Kx kq n.c.bytes n.q x }:=by
         show Qh (JG M1 cls x).N cls=_
         unfold JG
         dsimp only
         rw[ZI,Bw,Wo (f:=fun m:Nd=>{ m with q:=Kx kq n.c.bytes n.q x }) (fun _=>rfl) cls,if_pos rfl,hf,Option.map_some]
        have qq:=(C3.Zy cls _ yx).1
        have QoF:qD L.lq { n with q:=Kx kq n.c.bytes n.q x }=.ptr (L.lq cls) 0 0 0:=by unfold qD;rw[if_pos hl,DH]
        rw[QoF] at qq
        have YH:=Qd qq
        obtain ⟨kq3,Qux,hQ3⟩:=C3.K5 cls _ yx hl
        simp only[go_sem,simprocAttr,Qa]
        refine QA Qe hb 200 mixed [(0,true),(1,true),(2,true),(3,true),(4,true),(5,true),(6,true),(7,true),(8,true),(9,true),(10,false)] (by kernel_rfl) (by kernel_rfl) ?_
        simp only[go_sem,simprocAttr,Qa,ZZ,QoA,XI,DL,ex,ew,QoB,QoC,QoD,S4,qq,YH]
        have QZ:(Kx kq n.c.bytes n.q x).l.length=n.q.l.length+1:=by unfold Kx;rw[if_neg (by rw[Tc];exact Bool.false_ne_true)];simp
        have S8:({ n with q:=Kx kq n.c.bytes n.q x }:Nd).q.l.length=n.q.l.length+1:=QZ
        have Vz:=C3.ob
        have Yb:=Qd Vz
        refine QL hb Cz rfl ?_ (Dq hQ3.toR) rfl fun d hR=>?_
        ·simp only[go_sem,simprocAttr,Qa,Yc,yO,Vz,Yb,qq,YH,QZ]
        subst hR
        refine Qc hb ?_
        simp only[go_sem,simprocAttr,Qa,Yc,yO,Vz,Yb,qq,YH,QZ]
        cases hq:n.q.l with
        | cons y q=>
         have dz:(((q.length+1+1:Nat):Int) == 1)=false:=Vq (by omega)
         have hP:VT M1 now cls x=Ws (JG M1 cls x) (M1.acc+a):=by unfold VT;rw[hE,ZI,hq,← ha];rfl
         simp only[go_sem,simprocAttr,Qa,List.length_cons,dz]
         exact qI Xc H3 _ C3 I3 D3 hP.symm 0 hE
        | nil=>
         have dz:(((0+1:Nat):Int) == 1)=true:=rfl
         have JL:ZW (Ws (JG M1 cls x) (M1.acc+a)) cls=false:=by
          rw[Bool.eq_false_iff]
          intro h9
          have h8:=(MQ I1.tree (I1.some hf) hl M1.A).1 h9
          rw[t3] at h8
          exact hA n (by rw[← t1];exact hf) hl hq h8
         have hP:VT M1 now cls x=j9 (Ws (JG M1 cls x) (M1.acc+a)) now cls x.len:=by unfold VT;rw[hE,ZI,hq,← ha];rfl
         simp only[go_sem,simprocAttr,Qa,List.length_nil,dz]
         simp only[go_sem,simprocAttr,Qa,Yc,yO]
         refine Q5 hb QhU rfl ?_ (Qn0 C3 I3 yx hl now Wq x.len (by omega) JL) rfl fun d h4 hR=>?_
         ·simp only[go_sem,simprocAttr]
         obtain ⟨Td,C4,I4,D4⟩:=hR
         refine Qc hb ?_
         simp only[go_sem,simprocAttr,Qa]
         exact qI Td h4 _ C4 I4 (D3.trans D4) hP.symm 0 hE
@[go_sem] def Nb (c:Cf):Ob:=⟨.one,0,2,1,fun _=>c.cells⟩
def M0 (c:Cf):Qj:=⟨c,[],[],[],[],[],fun id=>decide (id=0),fun _=>[],0,0⟩
def Nf (own:Nat→Tag) (b:Nat) (l:Nat):Tag:=
 if l<b then own l else if l<b+2 then .tree else if l<b+5 then .lv else if l<b+8 then .Vm 0 else if l=b+8 then .mk else if l=b+9 then .SC else if l=b+10 then .sc else .on
theorem QoH (h:List Ob):Kp Tryz.prog 44 h [] (fun d g=>d=.ptr (h.length+1) 0 0 0∧g=[QE .i64 0 [],⟨.one,0,1,1,fun _=>[.mref h.length 0]⟩]):=
 QG.mono (Qlq (h.map Ob.ro)) fun d h' ⟨h1,h2⟩=>⟨_,h2,by rw[h1,List.length_map],by rw[List.length_map]⟩
def YJ (b:Nat):List Ob:=[qf .nil,QE .i64 0 [],wQ b (b+1)]
theorem QoI (h:List Ob):Kp Tryz.prog 45 h [] (fun d g=>d=.ptr (h.length+2) 0 0 0∧g=YJ h.length):=by
 have:QG Tryz.prog 45 (h.map Ob.ro) [] (fun d h'=>d=.ptr ((h.map Ob.ro).length+2) 0 0 0∧h'=h.map Ob.ro++YJ (h.map Ob.ro).length):=by
  generalize h.map Ob.ro=h
  refine QW Qe 200 Tryz.func45 rfl Tryz.ntmps45 Tryz.results45 rfl fun base w pl hb=>?_
  simp only[go_sem,simprocAttr,Qa]
  refine Q5 hb mj rfl ?_ (oK h) rfl fun d h hR=>?_
  ·simp only[go_sem,simprocAttr,Qa]
  obtain ⟨rfl,rfl⟩:=hR
  refine Qc hb ?_
  simp only[go_sem,simprocAttr,Qa]
  rfl
 exact QG.mono this fun d h' ⟨h1,h2⟩=>⟨_,h2,by rw[h1,List.length_map],by rw[List.length_map]⟩
theorem sR (h:List Ob):Kp Tryz.prog 46 h [] (fun d g=>d=.ptr (h.length+2) 0 0 0∧g=YJ h.length):=by
 have:QG Tryz.prog 46 (h.map Ob.ro) [] (fun d h'=>d=.ptr ((h.map Ob.ro).length+2) 0 0 0∧h'=h.map Ob.ro++YJ (h.map Ob.ro).length):=by
  generalize h.map Ob.ro=h
  refine QW Qe 200 Tryz.func46 rfl Tryz.ntmps46 Tryz.results46 rfl fun base w pl hb=>?_
  simp only[go_sem,simprocAttr,Qa]
  refine Q5 hb mj rfl ?_ (oK h) rfl fun d h hR=>?_
  ·simp only[go_sem,simprocAttr,Qa]
  obtain ⟨rfl,rfl⟩:=hR
  refine Qc hb ?_
  simp only[go_sem,simprocAttr,Qa]
  rfl
 exact QG.mono this fun d h' ⟨h1,h2⟩=>⟨_,h2,by rw[h1,List.length_map],by rw[List.length_map]⟩
theorem Te {H:List Ob} {S:Nat→Prop} {b:Nat} (h0:H[b]? = some (qf .nil)) (h1:H[b+1]? = some (QE .i64 0 [])) (h2:H[b+2]? = some (wQ b (b+1))) (s0:S b) (s1:S (b+1)) (s2:S (b+2)):Kr S H (b+2) []:=
 ⟨b,b+1,.nil,0,[],h2,⟨h0,trivial,rfl,by simp [Tr.Qz],by simp [Tr.Qz],by simp [JF]⟩,h1,Vu.nil,by simp,by omega,by omega,by omega,by simp [Tr.Qz],by simp [Tr.Qz],s2,s0,s1,by simp [Tr.Qz]⟩
theorem sS:JA []:=⟨TreeInv.nil,by simp,by simp,by simp,by simp⟩
theorem QoJ (c:Cf):Qy (M0 c):=
 ⟨sS,fun c hc=>by simp [M0] at hc,rfl,rfl,fun a ha=>by simp [M0] at ha,fun id=>by simp [M0,Qh],fun x hx=>by simp [M0] at hx,fun id x hx=>by simp [M0] at hx,fun id x hx=>by simp [M0] at hx,by simp [M0],by simp [M0]⟩
theorem QoK {own:Nat→Tag} {h:List Ob} (c:Cf) :
  QG Tryz.prog 15 h [.agg c.cells] (fun d h'=>(xu c∧∃ own' L p,d=.tup [.ptr p 0 0 0,Qb 0]∧Q4 own' h' p L (M0 c)∧Qy (M0 c)∧Q6 own h own' h')∨(¬ xu c∧d=.tup [.raw (.pointer none),Qb 1]∧∃ g,h'=h++g)):=by
 have Q9:∀ g,(h++Nb c::g)[h.length]? = some (Nb c):=fun g=>Kq rfl
 by_cases K:xu c
 ·have d1:decide (c.t<1)=false:=decide_eq_false (by have:=K.t1;omega)
  have d2:decide (65536<c.t)=false:=decide_eq_false (by have:=K.t2;omega)
  have d3:decide (c.VJ<1)=false:=decide_eq_false (by have:=K.l1;omega)
  have d4:decide (16384<c.VJ)=false:=decide_eq_false (by have:=K.l2;omega)
  refine QW Qe 200 Tryz.func15 rfl Tryz.ntmps15 Tryz.results15 rfl fun base w pl hb=>?_
  simp only[go_sem,simprocAttr,Qa,Qa,d1,d2,d3,d4]
  refine QA Qe hb 200 mixed [(0,true),(1,false),(3,false),(5,false),(4,false),(6,false),(7,true),(2,false),(8,true),(9,false),(10,true)] (by kernel_rfl) (by kernel_rfl) ?_
  simp only[go_sem,simprocAttr,Qa]
  refine Fq hb QhR rfl ?_ (QoH _) rfl fun d h hR=>?_
  ·simp only[go_sem,simprocAttr,Qa]
  obtain ⟨rfl,rfl⟩:=hR
  refine QF hb ?_
  simp only[go_sem,simprocAttr,Qa]
  refine Fq hb QhS rfl ?_ (QoI _) rfl fun d h hR=>?_
  ·simp only[go_sem,simprocAttr,Qa,YJ]
  obtain ⟨rfl,rfl⟩:=hR
  refine QF hb ?_
  simp only[go_sem,simprocAttr,Qa,YJ]
  refine Fq hb lX rfl ?_ (sR _) rfl fun d h hR=>?_
  ·simp only[go_sem,simprocAttr,Qa,YJ]
  obtain ⟨rfl,rfl⟩:=hR
  refine QF hb ?_
  simp only[go_sem,simprocAttr,Qa,YJ]
  refine Ql7 kP hb rfl rfl rfl rfl (Ve (k:=9) rfl) ?_
  refine QF hb ?_
  simp only[go_sem,simprocAttr,Qa]
  obtain ⟨cm,em,SB,Kv⟩:=Jv.nil.set .i64 0 0 (.ptr (h.length+6+2) 0 0 0)
  obtain ⟨G,hG⟩:∃ G:List Ob,G=[Nb c,QE .i64 0 [],⟨.one,0,1,1,fun _=>[.mref (h.length+1) 0]⟩,qf .nil,QE .i64 0 [],wQ (h.length+3) (h.length+3+1),qf .nil,QE .i64 0 [],wQ (h.length+6) (h.length+6+1),J5 .i64 0 [] 0 (.ptr (h.length+6+2) 0 0 0),QE .i64 0 [],⟨.one,0,9,1,fun _=>[Qb c.t,Qb c.VJ,.ptr (h.length+1+1) 0 0 0,.mref (h.length+10) 0,.raw (.pointer none),.ptr (h.length+3+2) 0 0 0,.mref (h.length+9) 0,u64 0,u64 0]⟩]:=⟨_,rfl⟩
  have DB:G.length=12:=by rw[hG];rfl
  have gk:∀ k o,G[k]? = some o→(h++G)[h.length+k]? = some o:=fun k o e=>by rw[List.getElem?_append_right (by omega),Nat.add_sub_cancel_left];exact e
  have ht:=gk 2 _ (by rw[hG];rfl)
  have hm:=gk 1 _ (by rw[hG];rfl)
  have hs:=gk 11 _ (by rw[hG];rfl)
  have QoL:=Qd hs
  have R:KW (h++G) (h.length+2) []:=Kf.toR (S:=fun _=>True) ⟨h.length+1,0,[],ht,hm,JK.nil,trivial,trivial⟩
  have ha:=oC R sS
  rw[hG] at ha
  refine Q5 hb lY rfl ?_ ha rfl fun d h' hR=>?_
  ·simp only[go_sem,simprocAttr,Qa]
  rw[← hG] at hR
  obtain ⟨rfl,hO,g,rfl⟩:=hR
  refine Qc hb ?_
  have Jf:((h++G)++g)[h.length+11]? = _:=(QU QoL).trans hs
  have sT:=Qd Jf
  have hGL:(h++G).length=h.length+12:=by rw[List.length_append,DB]
  simp only[go_sem,simprocAttr,Jf,sT]
  obtain ⟨QoM,LW⟩:∃ o,o=Zg own h .no:=⟨_,rfl⟩
  obtain ⟨J4,Tf⟩:∃ o,o=Nf QoM (h.length+1):=⟨_,rfl⟩
  have tg:∀ k,k<12→J4 (h.length+k)=if k<1 then .no else if k<3 then .tree else if k<6 then .lv else if k<9 then .Vm 0 else if k=9 then .mk else if k=10 then .SC else .sc:=fun k hk=>by
   rw[Tf];unfold Nf
   by_cases k1:k<1
   ·rw[if_pos (by omega),if_pos k1,LW];unfold Zg;rw[if_pos (by omega)]
   ·rw[if_neg (by omega),if_neg k1]
    by_cases k2:k<3
    ·rw[if_pos (by omega),if_pos k2]
    ·rw[if_neg (by omega),if_neg k2]
     by_cases k3:k<6
     ·rw[if_pos (by omega),if_pos k3]
     ·rw[if_neg (by omega),if_neg k3]
      by_cases k4:k<9
      ·rw[if_pos (by omega),if_pos k4]
      ·rw[if_neg (by omega),if_neg k4]
       by_cases k5:k=9
       ·rw[if_pos (by omega),if_pos k5]
       ·rw[if_neg (by omega),if_neg k5]
        by_cases k6:k=10
        ·rw[if_pos (by omega),if_pos k6]
        ·rw[if_neg (by omega),if_neg k6,if_pos (by omega)]
  have tgo:∀ l,h.length+12≤l→J4 l=.on:=fun l hl=>by
   rw[Tf];unfold Nf
   rw[if_neg (by omega),if_neg (by omega),if_neg (by omega),if_neg (by omega),if_neg (by omega),if_neg (by omega),if_neg (by omega)]
  have tgn:∀ l,l<h.length→J4 l=own l:=fun l hl=>by
   rw[Tf];unfold Nf
   rw[if_pos (by omega),LW];exact qo hl
  generalize hS:(⟨.one,0,9,1,_⟩:Ob)=S0
  have vE:∀ k o,k<11→G[k]? = some o→((h++G++g).set (h.length+11) S0)[h.length+k]? = some o:=fun k o hk e=>(Qt (by omega)).trans ((QU (by omega)).trans (gk k o e))
  have g1:=vE 1 _ (by omega) (by rw[hG];rfl)
  have g2:=vE 2 _ (by omega) (by rw[hG];rfl)
  have g3:=vE 3 _ (by omega) (by rw[hG];rfl)
  have g4:=vE 4 _ (by omega) (by rw[hG];rfl)
  have g5:=vE 5 _ (by omega) (by rw[hG];rfl)
  have g6:=vE 6 _ (by omega) (by rw[hG];rfl)
  have g7:=vE 7 _ (by omega) (by rw[hG];rfl)
  have g8:=vE 8 _ (by omega) (by rw[hG];rfl)
  have g9:=vE 9 _ (by omega) (by rw[hG];rfl)
  have g10:=vE 10 _ (by omega) (by rw[hG];rfl)
  have g11:((h++G++g).set (h.length+11) S0)[h.length+11]? = some S0:=Qw sT
  rw[SB] at g9
  have Tg:∀ id n,Qh (M0 c).N id=some n→False:=by intro id n hn;cases hn
  refine .inl ⟨K,J4,⟨h.length+2,h.length+10,(h++G).length+3,h.length+5,h.length+9,0,cm,[],em,fun _=>0,fun _=>0,fun _=>h.length+8⟩,h.length+11,rfl,⟨?_,(tg 11 (by omega)).trans rfl,⟨h.length+1,0,[],g2,g1,JK.nil,(tg 2 (by omega)).trans rfl,(tg 1 (by omega)).trans rfl⟩,g10,Jv.nil.to fun k=>rfl,(tg 10 (by omega)).trans rfl,fun id n hn=>(Tg id n hn).elim,fun id n hn=>(Tg id n hn).elim,?_,Te (S:=fun l=>J4 l=.lv) g3 g4 g5 ((tg 3 (by omega)).trans rfl) ((tg 4 (by omega)).trans rfl) ((tg 5 (by omega)).trans rfl),g9,Kv.to fun k=>?_,(tg 9 (by omega)).trans rfl,fun id QX=>?_,fun id n hn=>(Tg id n hn).elim⟩,QoJ c,⟨tgn,?_,?_⟩⟩
  ·rw[g11,← hS];rfl
  ·exact hO.step fun l hl ho=>⟨tgo l (by omega),Qt (by omega)⟩
  ·by_cases hk:k=0
   ·subst hk;rfl
   ·show (if k=0 then _ else _)=if decide (k=0)=true then _ else _
    rw[if_neg hk,if_neg (by simpa using hk)]
  ·have:id=0:=by simpa [M0] using QX
   subst this
   exact Te (S:=fun l=>J4 l=.Vm 0) g6 g7 g8 ((tg 6 (by omega)).trans rfl) ((tg 7 (by omega)).trans rfl) ((tg 8 (by omega)).trans rfl)
  ·intro l hl JL
   exact (Qt (by omega)).trans ((QU (by omega)).trans (QU hl))
  ·simp only[List.length_set,List.length_append];omega
 ·have fin:∀ d,d=D.tup [.raw (.pointer none),Qb 1]→∃ g,h++[Nb c]=h++g:=fun _ _=>⟨_,rfl⟩
  cases d1:decide (c.t<1) with
  | true=>
   refine QW Qe 200 Tryz.func15 rfl Tryz.ntmps15 Tryz.results15 rfl fun base w pl hb=>?_
   simp only[go_sem,simprocAttr,Qa,Qa,d1]
   exact .inr ⟨K,_,rfl⟩
  | false=>
   cases d2:decide (65536<c.t) with
   | true=>
    refine QW Qe 200 Tryz.func15 rfl Tryz.ntmps15 Tryz.results15 rfl fun base w pl hb=>?_
    simp only[go_sem,simprocAttr,Qa,Qa,d1,d2]
    exact .inr ⟨K,_,rfl⟩
   | false=>
    cases d3:decide (c.VJ<1) with
    | true=>
     refine QW Qe 200 Tryz.func15 rfl Tryz.ntmps15 Tryz.results15 rfl fun base w pl hb=>?_
     simp only[go_sem,simprocAttr,Qa,Qa,d1,d2,d3]
     exact .inr ⟨K,_,rfl⟩
    | false=>
     have d4:decide (16384<c.VJ)=true:=by
      have e1:=of_decide_eq_false d1
      have e2:=of_decide_eq_false d2
      have e3:=of_decide_eq_false d3
      refine decide_eq_true (Classical.byContradiction fun e4=>K ⟨by omega,by omega,by omega,by omega⟩)
     refine QW Qe 200 Tryz.func15 rfl Tryz.ntmps15 Tryz.results15 rfl fun base w pl hb=>?_
     simp only[go_sem,simprocAttr,Qa,Qa,d1,d2,d3,d4]
     exact .inr ⟨K,_,rfl⟩
theorem Ng {l:List Int} {k:Nat} (h:k<l.length):l.getD k 0∈l:=by
 rw[List.getD_eq_getElem?_getD,List.getElem?_eq_getElem h];exact List.getElem_mem h
def Th (l:List Int) (F:List Ob) (f nf:Nat) (QB:List D) (g:Int→Bool):Prop:=∀ (h:List Ob) (n:Int),n∈l→JY F h→QQ Tryz.prog f h (Z6 nf QB [Qb n]) (fun d=>d=QN (g n))
def G0 (l:List Int) (F:List Ob) (lo:Nat) (f nf:Nat) (QB:List D) (g:Int→Bool):Prop:=∀ (h:List Ob) (n:Int),n∈l→F.length≤h.length→(∀ l,l<F.length→l≠lo→h[l]? = F[l]?)→QQ Tryz.prog f h (Z6 nf QB [Qb n]) (fun d=>d=QN (g n))
section
variable (h:List Ob) (l:List Int) (lo gn off:Nat) (row:Nat→List D) (hlen:l.length<1000000) (ho:(h.map Ob.ro)[lo]? = some ⟨.xC,gn,1,off+l.length,row⟩) (hr:∀ i,i<l.length→row (off+i)=[Qb (l.getD i 0)])
include hlen ho hr
theorem QoP (so:D) (f nf:Nat) (QB:List D) (hf:Qo Tryz.prog f) (JP:J6 so=some (f,nf,QB)) (gk:Int→Bool) (hg:Th l (h.map Ob.ro) f nf QB gk) :
  QQ Tryz.prog 134 h [.ref lo gn off l.length,so] (fun d=>d=Qb (Y0 gk l)):=by
 refine Zh Qe 200 Tryz.func134 rfl Tryz.ntmps134 Tryz.results134 rfl fun base w pl F hF QR hb=>?_
 rw[← hF] at ho
 have Qf:=Qd ho
 simp only[go_sem,simprocAttr,Qa,ho,Qf]
 refine ZB (fun k s=>(∀ i,i<k→gk (l.getD i 0)=false)∧s=⟨[(0,.ref lo gn off l.length),(1,so),(7,Qb l.length),(8,Qb k)],F⟩) l.length (Ql.frame (by simp only[go_sem,simprocAttr])) ⟨fun i hi=>absurd hi (by omega),rfl⟩ ?_
 rintro k s hk ⟨hn,rfl⟩
 refine Qc hb ?_
 simp only[go_sem,simprocAttr,Qa]
 have Qf:=Qd ho
 have Zl:=KG (show k<4611686018427387904 by omega)
 first | refine kI hk (fun Qq=>?_) (fun Qq=>?_) | refine kJ hk (fun Qq=>?_) (fun Qq=>?_)
 ·have Py:=hr k Qq
  have zG:off+k<off+l.length:=by omega
  simp only[go_sem,simprocAttr,Qa,ho,Qf,Qq,Py,zG]
  refine QL hb hf JP ?_ (hg F (l.getD k 0) (Ng Qq) (by rw[← hF];exact JY.refl F)) rfl fun d2 hR=>?_
  ·simp only[go_sem,simprocAttr]
   exact kW _
  subst hR
  refine Qc hb ?_
  cases Xp:gk (l.getD k 0)
  ·simp only[go_sem,simprocAttr,Qa]
   refine ⟨Qq,_,Ql.frame (by simp only[go_sem,simprocAttr,Zl]),fun i hi=>?_,rfl⟩
   by_cases h1:i<k
   ·exact hn i h1
   ·have:i=k:=by omega
    subst this;exact Xp
  ·rw[Pw Qq hn Xp]
   simp only[go_sem,simprocAttr,Qa]
   exact ⟨[],(List.append_nil F).symm⟩
 ·have Qq:k=l.length:=by omega
  subst Qq
  simp only[go_sem,simprocAttr,Nat.lt_irrefl]
  rw[Px hn]
  refine Qc hb ?_
  simp only[go_sem,simprocAttr,Qa]
  exact ⟨[],(List.append_nil F).symm⟩
end
section
variable (h:List Ob) (l:List Int) (lo gn off:Nat) (row:Nat→List D) (hlen:l.length<1000000) (ho:h[lo]? = some ⟨.arr,gn,1,off+l.length,row⟩) (hr:∀ i,i<l.length→row (off+i)=[Qb (l.getD i 0)])
include hlen ho hr
theorem QoQ (so:D) (f nf:Nat) (QB:List D) (hf:Qo Tryz.prog f) (JP:J6 so=some (f,nf,QB)) (gk:Int→Bool) (hg:G0 l h lo f nf QB gk) (Ti:G0 l (h.map Ob.ro) lo f nf QB gk) :
  QG Tryz.prog 138 h [.ref lo gn off l.length,so] (fun d h'=>d=.ref lo gn off (YE gk l).length∧∃ KK,h'=h.set lo ⟨.arr,gn,1,off+l.length,KK⟩∧∀ i,i<(YE gk l).length→KK (off+i)=[Qb ((YE gk l).getD i 0)]):=by
 refine QW Qe 200 Tryz.func138 rfl Tryz.ntmps138 Tryz.results138 rfl fun base w pl hb=>?_
 have Qf:=Qd ho
 simp only[go_sem,simprocAttr,Qa,ho,Qf]
 refine QL hb Fu rfl ?_ (QoP h l lo gn off row hlen (Zv ho) hr so f nf QB hf JP gk (fun h' n hm hx=>?_)) rfl fun d2 hR=>?_
 ·simp only[go_sem,simprocAttr]
  exact AR so
 ·obtain ⟨g,rfl⟩:=hx
  exact Ti _ n hm (by simp) fun l hl _=>QU hl
 subst hR
 have WW:h.set lo ⟨.arr,gn,1,off+l.length,row⟩=h:=List.ext_getElem? fun i=>by
  by_cases h1:lo=i
  ·subst h1;rw[List.getElem?_set_self Qf,ho]
  ·rw[List.getElem?_set_ne h1]
 rcases Qnn (g:=gk) (l:=l) with ⟨h1,h2⟩ | ⟨i,hi,h1,h2,h3⟩
 ·rw[h1,h2]
  refine Qc hb ?_
  simp only[go_sem,simprocAttr,Qa,ho,Qf]
  exact ⟨row,WW.symm,hr⟩
 ·rw[h1]
  have QD:(((i:Nat):Int) == -1)=false:=by simp
  have Zl:=KG (show i<4611686018427387904 by omega)
  refine Qc hb ?_
  simp only[go_sem,simprocAttr,Qa,ho,Qf,QD,Zl]
  refine ZB (fun k s=>∃ r2:Nat→List D,(∀ x,x<l.length→(r2 (off+x)).length=1)∧(∀ j,j<((l.take (i+1+k)).filter fun x=>!gk x).length→r2 (off+j)=[Qb (((l.take (i+1+k)).filter fun x=>!gk x).getD j 0)])∧(∀ j,i+1+k≤j→j<l.length→r2 (off+j)=[Qb (l.getD j 0)]) ∧
   s=⟨[(0,.ref lo gn off l.length),(1,so),(5,Qb ((l.take (i+1+k)).filter fun x=>!gk x).length),(6,Qb (i+1+k:Nat))],h.set lo ⟨.arr,gn,1,off+l.length,r2⟩⟩) (l.length - (i+1))
   (s0:=⟨[(0,.ref lo gn off l.length),(1,so),(5,Qb i),(6,Qb (i+1:Nat))],h⟩) (Ql.frame (by simp only[go_sem,simprocAttr])) ⟨row,fun x hx=>by rw[hr x hx];rfl,?_,fun j _ hj=>hr j hj,?_⟩ ?_
  ·rw[Nat.add_zero,h3]
   intro j hj
   simp at hj
   rw[hr j (by omega)]
   simp [List.getD_eq_getElem?_getD,hj,show j<l.length by omega]
  ·rw[Nat.add_zero,h3,WW]
   simp [Nat.min_eq_left (Nat.le_of_lt hi)]
  rintro k s hk ⟨r2,jg,Wd,Bt,rfl⟩
  have MP:=Qnm l (fun x=>!gk x) (i+1+k)
  obtain ⟨M,hM⟩:∃ M,M=(l.take (i+1+k)).filter fun x=>!gk x:=⟨_,rfl⟩
  obtain ⟨j,hj⟩:∃ j,j=i+1+k:=⟨_,rfl⟩
  have Ze:lo<(h.set lo ⟨.arr,gn,1,off+l.length,r2⟩).length:=by simpa using Qf
  have VV:(h.set lo ⟨.arr,gn,1,off+l.length,r2⟩)[lo]? = some ⟨.arr,gn,1,off+l.length,r2⟩:=Qw Qf
  rw[← hj] at hM Wd Bt MP ⊢
  rw[← hM] at Wd MP ⊢
  have vF:j≤l.length:=by omega
  have Zl:=KG (show j<4611686018427387904 by omega)
  have QoR:=KG (show M.length<4611686018427387904 by omega)
  have QoS:∀ x,x<h.length→x≠lo→(h.set lo ⟨.arr,gn,1,off+l.length,r2⟩)[x]? = h[x]? := fun x _ hx=>Qt (Ne.symm hx)
  refine Qc hb ?_
  simp only[go_sem,simprocAttr,Qa,VV,Ze]
  first | refine kI vF (fun Qq=>?_) (fun Qq=>?_) | refine kJ vF (fun Qq=>?_) (fun Qq=>?_)
  ·have GM:=Bt j (Nat.le_refl _) Qq
   have Je:off+j<off+l.length:=by omega
   simp only[go_sem,simprocAttr,Qa,Qq,VV,Ze,GM,Je]
   refine QL hb hf JP ?_ (hg _ (l.getD j 0) (Ng Qq) (by simp) QoS) rfl fun d2 hR=>?_
   ·simp only[go_sem,simprocAttr]
    exact kW _
   subst hR
   have ZH:=rG l (fun x=>!gk x) j Qq
   rw[← hM,show l.getD j default=l.getD j 0 from rfl] at ZH
   cases Xp:gk (l.getD j 0)
   ·rw[if_pos (by simp only[Xp,Bool.not_false])] at ZH
    have ZZ:M.length<l.length:=by omega
    have Yc:off+M.length<off+l.length:=by omega
    have QoT:List.drop 1 (r2 (off+M.length))=[]:=List.drop_eq_nil_of_le (by rw[jg _ ZZ];exact Nat.le_refl _)
    refine Qc hb ?_
    simp only[go_sem,simprocAttr,Qa,VV,Ze,Zl,QoR,ZZ,Yc,QoT,jg M.length ZZ]
    have ej:i+1+(k+1)=j+1:=by omega
    have vz:(M++[l.getD j 0]).length=M.length+1:=by simp
    refine ⟨by omega,_,Ql.frame (fr':=[(0,.ref lo gn off l.length),(1,so),(5,Qb (M.length+1:Nat)),(6,Qb (j+1:Nat))]) (by simp only[go_sem,simprocAttr]),fun x=>bif x == off+M.length then [Qb (l.getD j 0)] else r2 x,?_,?_,?_,?_⟩
    ·intro x hx
     show (bif off+x == off+M.length then [Qb (l.getD j 0)] else r2 (off+x)).length=1
     cases (off+x == off+M.length)
     ·exact jg x hx
     ·rfl
    ·rw[ej,ZH]
     intro x hx
     simp at hx
     by_cases SV:x=M.length
     ·subst SV;simp only[beq_self_eq_true,cond_true];simp;rfl
     ·have e1:(off+x == off+M.length)=false:=by simp;omega
      have:=Wd x (by omega)
      simp only[e1,cond_false,this]
      rw[List.getD_eq_getElem?_getD,List.getD_eq_getElem?_getD,List.getElem?_append_left (by omega)];rfl
    ·intro x xQ KD
     have e1:(off+x == off+M.length)=false:=by simp;omega
     simp only[e1,cond_false]
     exact Bt x (by omega) KD
    ·rw[ej,ZH,vz];rfl
   ·rw[if_neg (by simp only[Xp,Bool.not_true];decide)] at ZH
    refine Qc hb ?_
    simp only[go_sem,simprocAttr,Qa,VV,Ze,Zl]
    refine ⟨by omega,_,Ql.frame (fr':=[(0,.ref lo gn off l.length),(1,so),(5,Qb M.length),(6,Qb (j+1:Nat))]) (by simp only[go_sem,simprocAttr]),r2,jg,?_,?_,?_⟩
    ·rw[show i+1+(k+1)=j+1 by omega,ZH];exact Wd
    ·intro x xQ KD;exact Bt x (by omega) KD
    ·rw[show i+1+(k+1)=j+1 by omega,ZH];rfl
  ·subst Qq
   rw[List.take_length] at hM
   have qs:M=YE gk l:=hM
   rw[← qs]
   have Je:M.length≤l.length:=by omega
   refine Qc hb ?_
   simp only[go_sem,simprocAttr,Qa,VV,Ze,Je]
   refine PK kP hb rfl VV rfl rfl rfl rfl (by simp;omega) rfl rfl rfl rfl ?_
   have hgS:∀ r:Ob,(h.set lo r)[lo]? = some r:=fun r=>Qw Qf
   refine Qc hb ?_
   simp only[go_sem,simprocAttr,Qa,hgS,Qf,Je]
   refine ⟨by simp,_,rfl,fun x hx=>by rw[PI (by omega)];exact Wd x hx⟩
theorem QoV (so:D) (f nf:Nat) (QB:List D) (hf:Qo Tryz.prog f) (JP:J6 so=some (f,nf,QB)) (gk:Int→Bool) (hg:G0 l h lo f nf QB gk) (Ti:G0 l (h.map Ob.ro) lo f nf QB gk) :
  QG Tryz.prog 138 h [.ref lo gn off l.length,so] (fun d h'=>d=.ref lo gn off (YE gk l).length∧∃ KK,h'=h.set lo ⟨.arr,gn,1,off+(YE gk l).length,KK⟩∧∀ i,i<(YE gk l).length→KK (off+i)=[Qb ((YE gk l).getD i 0)]):=by
 refine QG.cut (QoQ h l lo gn off row hlen ho hr so f nf QB hf JP gk hg Ti) ?_
 rintro d h' ⟨rfl,KK,rfl,GC⟩
 have:=List.length_filter_le (fun x=>!gk x) l
 refine ⟨lo,⟨.arr,gn,1,off+l.length,KK⟩,off+(YE gk l).length,Qw (Qd ho),rfl,by simp only[YE];omega,rfl,KK,by rw[List.set_set],GC⟩
end
section
variable (h:List Ob) (l:List Int) (hlen:l.length<1000000)
include hlen
theorem QoW (so:D) (f nf:Nat) (QB:List D) (hf:Qo Tryz.prog f) (JP:J6 so=some (f,nf,QB)) (gk:Int→Bool) (hg:Th l (h.map Ob.ro) f nf QB gk) :
  QQ Tryz.prog 134 h [ints l,so] (fun d=>d=Qb (Y0 gk l)):=by
 refine Zh Qe 200 Tryz.func134 rfl Tryz.ntmps134 Tryz.results134 rfl fun base w pl F hF QR hb=>?_
 simp only[go_sem,simprocAttr,Qa]
 refine ZB (fun k s=>(∀ i,i<k→gk (l.getD i 0)=false)∧s=⟨[(0,ints l),(1,so),(7,Qb l.length),(8,Qb k)],F⟩) l.length (Ql.frame (by simp only[go_sem,simprocAttr])) ⟨fun i hi=>absurd hi (by omega),rfl⟩ ?_
 rintro k s hk ⟨hn,rfl⟩
 refine Qc hb ?_
 simp only[go_sem,simprocAttr,Qa]
 have Zl:=KG (show k<4611686018427387904 by omega)
 first | refine kI hk (fun Qq=>?_) (fun Qq=>?_) | refine kJ hk (fun Qq=>?_) (fun Qq=>?_)
 ·simp only[go_sem,simprocAttr,Qa,Qq]
  refine QL hb hf JP ?_ (hg F (l.getD k 0) (Ng Qq) (by rw[← hF];exact JY.refl F)) rfl fun d2 hR=>?_
  ·simp only[go_sem,simprocAttr]
   exact kW _
  subst hR
  refine Qc hb ?_
  cases Xp:gk (l.getD k 0)
  ·simp only[go_sem,simprocAttr,Qa]
   refine ⟨Qq,_,Ql.frame (by simp only[go_sem,simprocAttr,Zl]),fun i hi=>?_,rfl⟩
   by_cases h1:i<k
   ·exact hn i h1
   ·have:i=k:=by omega
    subst this;exact Xp
  ·rw[Pw Qq hn Xp]
   simp only[go_sem,simprocAttr,Qa]
   exact ⟨[],(List.append_nil F).symm⟩
 ·have Qq:k=l.length:=by omega
  subst Qq
  simp only[go_sem,simprocAttr,Nat.lt_irrefl]
  rw[Px hn]
  refine Qc hb ?_
  simp only[go_sem,simprocAttr,Qa]
  exact ⟨[],(List.append_nil F).symm⟩
theorem Tj (so:D) (f nf:Nat) (QB:List D) (hf:Qo Tryz.prog f) (JP:J6 so=some (f,nf,QB)) (gk:Int→Bool) (hg:Th l (h.map Ob.ro) f nf QB gk) :
  QQ Tryz.prog 52 h [ints l,so] (fun d=>d=QN (decide (0≤Y0 gk l))):=by
 refine Zh Qe 200 Tryz.func52 rfl Tryz.ntmps52 Tryz.results52 rfl fun base w pl F hF QR hb=>?_
 simp only[go_sem,simprocAttr,Qa]
 refine QL hb Fu rfl ?_ (QoW F l hlen so f nf QB hf JP gk (fun h' n hm hx=>?_)) rfl fun d2 hR=>?_
 ·simp only[go_sem,simprocAttr]
  exact AR so
 ·rw[hF,Pv] at hx
  exact hg h' n hm hx
 subst hR
 refine Qc hb ?_
 simp only[go_sem,simprocAttr,Qa]
 exact ⟨[],(List.append_nil F).symm⟩
end
structure YK (h:List Ob) (p:Nat) (L:Loc) (M:Qj):Prop where
 ob:(h.map Ob.ro)[p]? = some (XD M.lk L.t L.b L.o L.v L.m M.Zx M.acc).ro
 tr:KW h L.t M.T
 JS:(h.map Ob.ro)[L.b]? = some (QE .i64 L.cb L.eb).ro
 Wm:Jv L.eb (fun id=>(Qh M.N id).map fun _=>.ptr (L.le id) 0 0 0)
 Zy:∀ id n,Qh M.N id=some n→(h.map Ob.ro)[L.le id]? = some (VS (qD L.lq n) n).ro
 K5:∀ id n,Qh M.N id=some n→n.c.leaf=true→∃ k:Nat,n.c.Za=k∧Dp h (L.lq id) k n.c.bytes n.q
 Wn:A4 h L.o M.To M.A
 Vn:wR h L.v M.Lv
 J3:(h.map Ob.ro)[L.m]? = some (QE .i64 L.cm L.em).ro
 Vo:Jv L.em (fun id=>if M.ks id=true then some (.ptr (L.lk id) 0 0 0) else none)
 kids:∀ id,M.ks id=true→wR h (L.lk id) (M.KT id)
theorem Q4.ro {own:Nat→Tag} {h:List Ob} {p:Nat} {L:Loc} {M:Qj} (C:Q4 own h p L M):YK h p L M:=
 ⟨Zv C.ob,C.tr.toR,Zv C.JS,C.Wm,fun id n hn=>Zv (C.Zy id n hn).1,fun id n hn hl=>by
  obtain ⟨k,h1,h2⟩:=C.K5 id n hn hl
  exact ⟨k,h1,h2.toR⟩,C.Wn.toR,C.Vn.toR,Zv C.J3,C.Vo,fun id hk=>(C.kids id hk).toR⟩
theorem YK.more {h h':List Ob} {p:Nat} {L:Loc} {M:Qj} (e:∀ (l:Nat) (o:Ob),(h.map Ob.ro)[l]? = some o→(h'.map Ob.ro)[l]? = some o) (C:YK h p L M):YK h' p L M:=
 ⟨e _ _ C.ob,C.tr.more e,e _ _ C.JS,C.Wm,fun id n hn=>e _ _ (C.Zy id n hn),fun id n hn hl=>by
  obtain ⟨k,h1,h2⟩:=C.K5 id n hn hl
  exact ⟨k,h1,h2.more e⟩,C.Wn.more e,C.Vn.more e,e _ _ C.J3,C.Vo,fun id hk=>(C.kids id hk).more e⟩
theorem YK.look {h:List Ob} {p:Nat} {L:Loc} {M:Qj} (C:YK h p L M) {id:Int} {n:Nd} (hn:Qh M.N id=some n):JE L.eb id=some (.ptr (L.le id) 0 0 0):=by
 rw[C.Wm.at_,hn];rfl
theorem QoX {h:List Ob} {p bl:Nat} {L:Loc} {M:Qj} (C:YK h p L M) {id:Int} {n:Nd} (hn:Qh M.N id=some n) (hl:n.c.leaf=true) (QX:n.c.iD=id) (Q9:(h.map Ob.ro)[bl]? = some ⟨.Ku,0,1,1,fun _=>[.ptr p 0 0 0]⟩) :
  QQ Tryz.prog 140 h [Qb id,.ptr bl 0 0 0] (fun d=>d=QN (n.q.l.isEmpty)):=by
 have ho:=C.ob
 have hy:=C.JS
 have he:=C.Zy id n hn
 have YF:=C.look hn
 obtain ⟨k,hk,hQ⟩:=C.K5 id n hn hl
 have xo:qD L.lq n=.ptr (L.lq id) 0 0 0:=by unfold qD;rw[if_pos hl,QX]
 rw[xo] at he
 have e:((n.q.l.length:Int) == 0)=(n.q.l.isEmpty):=by
  cases n.q.l with
  | nil=>rfl
  | cons x l=>simp;omega
 refine Zh Qe 200 Tryz.func140 rfl Tryz.ntmps140 Tryz.results140 rfl fun base w pl F hF QR hb=>?_
 rw[← hF] at Q9 ho hy he
 have Y7:=Qd Q9
 have Qf:=Qd ho
 have V6:=Qd hy
 have ZS:=Qd he
 simp only[go_sem,simprocAttr,Qa,Q9,Y7,ho,Qf,hy,V6,he,ZS,YF]
 refine QL hb Cz rfl ?_ (Dq (hQ.more (JM hF))) rfl fun d hR=>?_
 ·simp only[go_sem,simprocAttr,Qa,e]
 subst hR
 refine Qc hb ?_
 simp only[go_sem,simprocAttr,Qa,e]
 exact ⟨[],(List.append_nil F).symm⟩
theorem QoY (h:List Ob) (so:D):QQ Tryz.prog 138 h [.nil,so] (fun d=>d=.nil):=by
 refine Zh Qe 200 Tryz.func138 rfl Tryz.ntmps138 Tryz.results138 rfl fun base w pl F hF QR hb=>?_
 simp only[go_sem,simprocAttr,Qa]
 refine QL hb Fu rfl ?_ (nw F so) rfl fun d2 hR=>?_
 ·simp only[go_sem,simprocAttr]
  exact AR so
 subst hR
 refine Qc hb ?_
 simp only[go_sem,simprocAttr,Qa]
 exact ⟨[],(List.append_nil F).symm⟩
def Yf (T:List Qi):List Int:=(T.filter (·.leaf)).map (·.iD)
def xv (M:Qj) (id:Int):Bool:=(QC M id).q.l.isEmpty
def JZ (M:Qj):List Int:=YE (xv M) (Yf M.T)
theorem Nh {M:Qj} (I:Qy M) {id:Int} (h:id∈Yf M.T):∃ n,Qh M.N id=some n∧n.c.leaf=true∧n.c.iD=id:=by
 obtain ⟨c,hc,rfl⟩:=List.mem_map.1 h
 obtain ⟨BW,zo⟩:=List.mem_filter.1 hc
 have hf:=(KQ I.tree.rising).2 ⟨BW,rfl⟩
 rw[I.nodes,SE] at hf
 cases hn:Qh M.N c.iD with
 | none=>rw[hn] at hf;cases hf
 | some n=>
  rw[hn,Option.map_some,Option.some.injEq] at hf
  exact ⟨n,rfl,by rw[hf];exact zo,by rw[hf]⟩
section
variable {h:List Ob} {p:Nat} {L:Loc} {M:Qj} (C:YK h p L M) (I:Qy M)
include C I
theorem QoZ:Kp Tryz.prog 55 h [.ptr p 0 0 0] (fun d g=>Z3 h.length (h++g) d (JZ M)):=by
 have Wy:(Yf M.T).length<1000000:=by
  have:=List.length_filter_le (fun c:Qi=>c.leaf) M.T
  have h2:=I.tree.len
  simp only[Yf,List.length_map];omega
 have ho:=C.ob
 refine V1 Qe 200 Tryz.func55 rfl Tryz.ntmps55 Tryz.results55 rfl fun base w pl F hF QR hb=>?_
 rw[← hF] at ho
 have Qf:=Qd ho
 simp only[go_sem,simprocAttr,Qa,ho,Qf]
 obtain ⟨B,hB⟩:∃ B:List Ob,B=[⟨.one,0,1,1,fun _=>[.ptr p 0 0 0]⟩]:=⟨_,rfl⟩
 have sU:B.length=1:=by rw[hB];rfl
 have Q9:B[0]? = some ⟨.one,0,1,1,fun _=>[.ptr p 0 0 0]⟩:=by rw[hB];rfl
 have Ni:=hB
 rw[← Ni]
 have CF:YK F p L M:=C.more (JM hF)
 have CB:YK (F++B) p L M:=CF.more yy
 obtain ⟨m,c,es,ht,hm,hT⟩:=CB.tr
 refine yh hb Qim rfl ?_ (Qkx _ L.t m c hT (by have:=I.tree.len;omega) ht hm) rfl fun d g hs=>?_
 ·simp only[go_sem,simprocAttr]
 rw[show (M.T.filter (·.leaf)).map (·.iD)=Yf M.T from rfl] at hs
 rcases hs with ⟨rfl,h3⟩ | ⟨lo,gn,off,row,rfl,Zp,Vz,hr⟩
 ·refine Qc hb ?_
  simp only[go_sem,simprocAttr,Qa]
  refine QL hb mn rfl ?_ (QoY _ (.clo 140 0 [.ptr F.length 0 0 0])) rfl fun d2 hR=>?_
  ·simp only[go_sem,simprocAttr,Qa]
  subst hR
  refine Qc hb ?_
  simp only[go_sem,simprocAttr,Qa]
  refine ⟨_,rfl,.inl ⟨rfl,?_⟩⟩
  rw[JZ,h3];rfl
 ·refine Qc hb ?_
  simp only[go_sem,simprocAttr,Qa]
  have qO:F.length+1≤lo:=by
   have h4:(F++B).length≤lo:=Zp.1
   rw[List.length_append,sU] at h4;exact h4
  obtain ⟨H,hH⟩:∃ H,H=F++(B++g):=⟨_,rfl⟩
  have hHF:∀ x:Nat,x<F.length→H[x]? = F[x]? := fun x hx=>by rw[hH];exact QU hx
  have XI:H[lo]? = some ⟨.arr,gn,1,off+(Yf M.T).length,row⟩:=by rw[hH,← List.append_assoc];exact Vz
  have hHb:F.length+1≤H.length:=by rw[hH];simp [sU]
  have Qo1:H[F.length]? = some ⟨.one,0,1,1,fun _=>[.ptr p 0 0 0]⟩:=by rw[hH,Kq rfl,QU (by omega)];exact Q9
  rw[← hH]
  have tell:∀ H2:List Ob,(∀ x:Nat,H[x]? = H2[x]?∨(H2[x]? = (H[x]?).map Ob.ro))→H2.length=H.length→G0 (Yf M.T) H2 lo 140 0 [.ptr F.length 0 0 0] (xv M):=by
   intro H2 h2 Jd h' n KV hle hag
   have key:∀ (x:Nat) (o:Ob),x<F.length+1→(H.map Ob.ro)[x]? = some o→(h'.map Ob.ro)[x]? = some o:=fun x o hx e=>by
    have e1:=hag x (by omega) (by omega)
    rw[List.getElem?_map] at e ⊢
    rw[e1]
    rcases h2 x with e2 | e2
    ·rw[← e2];exact e
    ·rw[e2,Option.map_map,← e]
     congr 1
     funext o
     exact ro_ro o
   obtain ⟨nd,hn,hl,QX⟩:=Nh I KV
   have ZI:QC M n=nd:=by unfold QC;rw[hn];rfl
   have:=QoX (CF.more (h':=h') fun x o e=>key x o (by have:=Qd e;rw[List.length_map] at this;omega) (by rw[List.getElem?_map,hHF x (by have:=Qd e;rw[List.length_map] at this;omega),← List.getElem?_map];exact e)) hn hl QX (key F.length ⟨.Ku,0,1,1,fun _=>[.ptr p 0 0 0]⟩ (by omega) (by rw[List.getElem?_map,Qo1];rfl))
   unfold xv
   rw[ZI]
   exact this
  refine Q5 hb mn rfl ?_ (QoV H (Yf M.T) lo gn off row Wy XI hr (.clo 140 0 [.ptr F.length 0 0 0]) 140 0 [.ptr F.length 0 0 0] Qin rfl (xv M) (tell H (fun x=>.inl rfl) rfl) (tell (H.map Ob.ro) (fun x=>.inr (by rw[List.getElem?_map])) (by simp))) rfl fun d h2 hR=>?_
  ·simp only[go_sem,simprocAttr,Qa]
  obtain ⟨rfl,KK,rfl,GC⟩:=hR
  refine Qc hb ?_
  simp only[go_sem,simprocAttr,Qa]
  refine Z3.done QR ⟨(B++g).set (lo - F.length) ⟨.arr,gn,1,off+(YE (xv M) (Yf M.T)).length,KK⟩,?_⟩ (.inr ⟨lo,gn,off,KK,rfl,?_,?_,GC⟩)
  ·rw[hH,List.set_append_right _ _ (by omega:F.length≤lo)]
  ·exact ⟨by have:=Zp.1;omega,Zp.2⟩
  ·exact Qw (Qd XI)
theorem Tl:QQ Tryz.prog 55 h [.ptr p 0 0 0] (fun d=>d=ints (JZ M)):=Z3.closed (QoZ C I)
end
def G1 (l:List Int) (v:Int):Int:=if l.contains v then (l.idxOf v:Nat) else -1
theorem Qo3 (l:List Int) (id:Int) (hl:l.length<2147483648):Q7 Tryz.prog 192 [ints l,Qb id] (Qm (Qb (G1 l id))):=by
 refine Zk 0 Qe 200 Tryz.func192 rfl Tryz.ntmps192 Tryz.results192 rfl fun base w hb=>?_
 simp only[go_sem,simprocAttr]
 refine ZB (fun k s=>(l.take k).contains id=false∧s=⟨[(0,ints l),(1,Qb id),(6,ints l),(7,Qb l.length),(8,Qb k)],[]⟩) l.length (s0:=⟨[(0,ints l),(1,Qb id),(6,ints l),(7,Qb l.length),(8,Qb 0)],[]⟩) (Ql.frame (by simp only[go_sem,simprocAttr])) ⟨by simp,rfl⟩ ?_
 rintro k s hk ⟨JL,rfl⟩
 refine Qc hb ?_
 simp only[go_sem,simprocAttr]
 refine jy (fun h=>?_) (fun h=>?_)
 ·have Qq:k<l.length:=by simpa using h
  have e1:=getD_take l 0 k Qq
  simp only[go_sem,simprocAttr,Qq]
  refine jy (fun h2=>?_) (fun h2=>?_)
  ·simp only[go_sem,simprocAttr]
   have h3:l=l.take k++id::l.drop (k+1):=by
    conv=>lhs;rw[← List.take_append_drop (k+1) l,e1]
    simp at h2;simp [h2]
   have:G1 l id=k:=by
    have hc:l.contains id=true:=by rw[h3];simp
    have h4:¬ id∈l.take k:=by simpa using JL
    rw[G1,hc];simp only[if_true]
    rw[h3,List.idxOf_append,if_neg h4];simp;omega
   rw[this]
  ·simp only[go_sem,simprocAttr]
   refine ⟨by omega,_,Ql.frame (by simp only[go_sem,simprocAttr,KG (show k<4611686018427387904 by omega)]),?_,rfl⟩
   rw[e1];simp at JL h2 ⊢;exact ⟨JL,h2⟩
 ·have Qq:k=l.length:=by simp at h;omega
  simp only[go_sem,simprocAttr]
  refine Qc hb ?_
  simp only[go_sem,simprocAttr]
  subst Qq
  simp at JL
  simp [G1,JL]
theorem Qo4 (l:List Int) (id:Int) (hl:l.length<2147483648):Q7 Tryz.prog 136 [ints l,Qb id] (Qm (QN (l.contains id))):=by
 refine Zk 0 Qe 200 Tryz.func136 rfl Tryz.ntmps136 Tryz.results136 rfl fun base w hb=>?_
 simp only[go_sem,simprocAttr]
 refine QM hb Qix rfl ?_ (Qo3 l id hl) (Qm.flat rfl) rfl fun d h hR=>?_
 ·simp only[go_sem,simprocAttr]
 obtain ⟨rfl,rfl⟩:=hR
 refine Qc hb ?_
 simp only[go_sem,simprocAttr]
 unfold G1
 cases l.contains id <;> simp
theorem Qo5 {h:List Ob} {p b1 b2:Nat} {L:Loc} {M:Qj} (C:YK h p L M) (I:Qy M) (id n:Int) (h1:(h.map Ob.ro)[b1]? = some ⟨.Ku,0,1,1,fun _=>[.ptr p 0 0 0]⟩) (h2:(h.map Ob.ro)[b2]? = some ⟨.Ku,0,1,1,fun _=>[Qb id]⟩) :
  QQ Tryz.prog 135 h [Qb n,.ptr b1 0 0 0,.ptr b2 0 0 0] (fun d=>d=QN ((up M.T n).contains id)):=by
 have ho:=C.ob
 refine Zh Qe 200 Tryz.func135 rfl Tryz.ntmps135 Tryz.results135 rfl fun base w pl F hF QR hb=>?_
 rw[← hF] at ho h1 h2
 have Qf:=Qd ho
 have Qx:=Qd h1
 have Ji:=Qd h2
 simp only[go_sem,simprocAttr,Qa,ho,Qf,h1,Qx,h2,Ji]
 refine QA Qe hb 200 mixed [(0,true),(1,true),(2,true),(3,true),(4,true),(6,true),(5,false),(7,false),(8,true)] (by kernel_rfl) (by kernel_rfl) ?_
 simp only[go_sem,simprocAttr,Qa,ho,Qf,h1,Qx,h2,Ji]
 refine Ju hb Lb rfl ?_ (P5 (C.tr.more (JM hF)) I.tree.toTreeInv n) rfl fun d hR=>?_
 ·simp only[go_sem,simprocAttr,Qa,h1,Qx,h2,Ji]
 subst hR
 refine QF hb ?_
 simp only[go_sem,simprocAttr,Qa,h1,Qx,h2,Ji]
 have kv:(ZG M.T 16 n).length≤16:=kY (L:=M.T) (n:=16) (id:=n)
 refine Zo hb Qik rfl ?_ (Qo4 (ZG M.T 16 n) id (by omega)) (Qm.flat rfl) rfl fun d h hR=>?_
 ·simp only[go_sem,simprocAttr,Qa]
 obtain ⟨rfl,rfl⟩:=hR
 refine QF hb ?_
 simp only[go_sem,simprocAttr,Qa]
 exact ⟨[],(List.append_nil F).symm,rfl⟩
theorem Qo6 (g:Int→Bool) (l:List Int):(YE g l).length≤l.length:=List.length_filter_le _ _
def z6 (M:Qj) (id:Int):Bool:=(JZ M).any fun n=>(up M.T n).contains id
theorem sV {M:Qj} (I:Qy M):(JZ M).length≤64:=by
 have h1:=Qo6 (xv M) (Yf M.T)
 have h2:=List.length_filter_le (fun c:Qi=>c.leaf) M.T
 have h3:=I.tree.len
 simp only[JZ,Yf,List.length_map] at h1 ⊢
 omega
theorem Qo7 {h:List Ob} {p:Nat} {L:Loc} {M:Qj} (C:YK h p L M) (I:Qy M) (id:Int) :
  QQ Tryz.prog 53 h [.ptr p 0 0 0,Qb id] (fun d=>d=QN (z6 M id)):=by
 have Wy:=sV I
 have ho:=C.ob
 refine V1 Qe 200 Tryz.func53 rfl Tryz.ntmps53 Tryz.results53 rfl fun base w pl F hF QR hb=>?_
 rw[← hF] at ho
 have Qf:=Qd ho
 simp only[go_sem,simprocAttr,Qa,ho,Qf]
 have CF:YK F p L M:=C.more (JM hF)
 obtain ⟨B,hB⟩:∃ B:List Ob,B=[⟨.one,0,1,1,fun _=>[.ptr p 0 0 0]⟩,⟨.one,0,1,1,fun _=>[Qb id]⟩]:=⟨_,rfl⟩
 have Q9:B[0]? = some ⟨.one,0,1,1,fun _=>[.ptr p 0 0 0]⟩:=by rw[hB];rfl
 have Je:B[1]? = some ⟨.one,0,1,1,fun _=>[Qb id]⟩:=by rw[hB];rfl
 have Ni:=hB
 simp only[go_sem,simprocAttr] at Ni
 rw[← Ni]
 have CB:YK (F++B) p L M:=CF.more yy
 refine QL hb OW rfl ?_ (Tl CB I) rfl fun d hR=>?_
 ·simp only[go_sem,simprocAttr,Qa]
 subst hR
 refine Qc hb ?_
 simp only[go_sem,simprocAttr,Qa]
 refine QL hb Fs rfl ?_ (Tj (F++B) (JZ M) (by omega) (.clo 135 0 [.ptr F.length 0 0 0,.ptr (F.length+1) 0 0 0]) 135 0 [.ptr F.length 0 0 0,.ptr (F.length+1) 0 0 0] Qij rfl (fun n=>(up M.T n).contains id) (fun h' n hm hx=>?_)) rfl fun d2 hR=>?_
 ·simp only[go_sem,simprocAttr,Qa]
 ·have key:∀ (l:Nat) (o:Ob),((F++B).map Ob.ro)[l]? = some o→(h'.map Ob.ro)[l]? = some o:=fun l o e=>by
   obtain ⟨g,rfl⟩:=hx
   have e2:=Zv ((QU (Qd e)).trans e:((F++B).map Ob.ro++g)[l]? = some o)
   rw[e2]
   rw[List.getElem?_map] at e
   obtain ⟨o2,h2,rfl⟩:=Option.map_eq_some_iff.1 e
   rw[ro_ro]
  exact Qo5 (CB.more key) I id n (key _ _ (by rw[List.getElem?_map,Kq rfl,Q9];rfl)) (key _ _ (by rw[List.getElem?_map,Ve rfl,Je];rfl))
 subst hR
 refine Qc hb ?_
 simp only[go_sem,simprocAttr,Qa]
 refine ⟨B,rfl,?_⟩
 rw[FF];rfl
theorem Qo8 {h:List Ob} {t1 t2 b1 b2:Nat} {A B:List Qi} (RA:KW h t1 A) (RB:KW h t2 B) (id:Int) (h1:(h.map Ob.ro)[b1]? = some ⟨.Ku,0,1,1,fun _=>[.ptr t1 0 0 0]⟩) (h2:(h.map Ob.ro)[b2]? = some ⟨.Ku,0,1,1,fun _=>[.ptr t2 0 0 0]⟩) (hA:A.length<100000) (hB:B.length<100000) :
  QQ Tryz.prog 137 h [Qb id,.ptr b1 0 0 0,.ptr b2 0 0 0] (fun d=>d=QN (yL A id || yL B id)):=by
 obtain ⟨x,hx⟩:∃ x,x=(Qr A id).getD default:=⟨_,rfl⟩
 obtain ⟨y,hy⟩:∃ y,y=(Qr B id).getD default:=⟨_,rfl⟩
 have e1:yL A id=decide (1<QH x.rt):=by rw[hx];rfl
 have e2:yL B id=decide (1<QH y.rt):=by rw[hy];rfl
 rw[e1,e2]
 refine Zh Qe 200 Tryz.func137 rfl Tryz.ntmps137 Tryz.results137 rfl fun base w pl F hF QR hb=>?_
 rw[← hF] at h1 h2
 have Qx:=Qd h1
 have Ji:=Qd h2
 simp only[go_sem,simprocAttr,Qa,h1,Qx,h2,Ji]
 have sW:=CZ (RA.more (JM hF)) id
 have sX:=fun G:List Ob=>CZ ((RB.more (JM hF)).more (yy (g:=G))) id
 rw[← hx] at sW
 simp only[← hy] at sX
 refine QL hb Yr rfl ?_ sW rfl fun d hR=>?_
 ·simp only[go_sem,simprocAttr,Qa,h1,Qx,h2,Ji]
 subst hR
 refine Qc hb ?_
 simp only[go_sem,simprocAttr,Qa,h1,Qx,h2,Ji]
 refine QL hb Yr rfl ?_ (sX _) rfl fun d hR=>?_
 ·simp only[go_sem,simprocAttr,Qa,h1,Qx,h2,Ji]
 subst hR
 refine Qc hb ?_
 simp only[go_sem,simprocAttr,Qa,h1,Qx,h2,Ji]
 cases dr:decide (1<QH x.rt) with
 | true=>
  refine QM hb kQ rfl ?_ (wz x) (Qm.flat rfl) rfl fun d h hR=>?_
  ·simp only[go_sem,simprocAttr,Qa,dr]
  obtain ⟨rfl,rfl⟩:=hR
  refine Qc hb ?_
  simp only[go_sem,simprocAttr,Qa,dr]
  exact ⟨_,rfl⟩
 | false=>
  refine QM hb kQ rfl ?_ (wz x) (Qm.flat rfl) rfl fun d h hR=>?_
  ·simp only[go_sem,simprocAttr,Qa,dr]
  obtain ⟨rfl,rfl⟩:=hR
  refine Qc hb ?_
  simp only[go_sem,simprocAttr,Qa,dr]
  refine QM hb kQ rfl ?_ (wz y) (Qm.flat rfl) rfl fun d h hR=>?_
  ·simp only[go_sem,simprocAttr,Qa]
  obtain ⟨rfl,rfl⟩:=hR
  refine Qc hb ?_
  simp only[go_sem,simprocAttr,Qa]
  exact ⟨_,rfl⟩
theorem Tm {h:List Ob} {t1 t2:Nat} {A B:List Qi} (RA:KW h t1 A) (RB:KW h t2 B) (hA:A.length<100000) (hB:B.length<100000) (hT:(Jm A B).length<1000000) :
  QQ Tryz.prog 54 h [.ptr t1 0 0 0,.ptr t2 0 0 0] (fun d=>d=QN (Mz A B)):=by
 refine V1 Qe 200 Tryz.func54 rfl Tryz.ntmps54 Tryz.results54 rfl fun base w pl F hF QR hb=>?_
 simp only[go_sem,simprocAttr,Qa]
 obtain ⟨G,hG⟩:∃ G:List Ob,G=[⟨.one,0,1,1,fun _=>[.ptr t1 0 0 0]⟩,⟨.one,0,1,1,fun _=>[.ptr t2 0 0 0]⟩]:=⟨_,rfl⟩
 have Q9:G[0]? = some ⟨.one,0,1,1,fun _=>[.ptr t1 0 0 0]⟩:=by rw[hG];rfl
 have Je:G[1]? = some ⟨.one,0,1,1,fun _=>[.ptr t2 0 0 0]⟩:=by rw[hG];rfl
 rw[← hG]
 have Gz:KW (F++G) t1 A:=(RA.more (JM hF)).more yy
 have GB:KW (F++G) t2 B:=(RB.more (JM hF)).more yy
 refine QL hb lZ rfl ?_ (rP Gz GB hA hB) rfl fun d hR=>?_
 ·simp only[go_sem,simprocAttr,Qa]
 subst hR
 refine Qc hb ?_
 simp only[go_sem,simprocAttr,Qa]
 refine QL hb Fs rfl ?_ (Tj (F++G) (Jm A B) hT (.clo 137 0 [.ptr F.length 0 0 0,.ptr (F.length+1) 0 0 0]) 137 0 [.ptr F.length 0 0 0,.ptr (F.length+1) 0 0 0] Qil rfl (fun id=>yL A id || yL B id) (fun h' n hm hx=>?_)) rfl fun d2 hR=>?_
 ·simp only[go_sem,simprocAttr,Qa]
 ·have key:∀ (l:Nat) (o:Ob),((F++G).map Ob.ro)[l]? = some o→(h'.map Ob.ro)[l]? = some o:=fun l o e=>by
   obtain ⟨g,rfl⟩:=hx
   have e2:=Zv ((QU (Qd e)).trans e:((F++G).map Ob.ro++g)[l]? = some o)
   rw[e2]
   rw[List.getElem?_map] at e
   obtain ⟨o2,h2,rfl⟩:=Option.map_eq_some_iff.1 e
   rw[ro_ro]
  exact Qo8 (Gz.more key) (GB.more key) n (key _ _ (by rw[List.getElem?_map,Kq rfl,Q9];rfl)) (key _ _ (by rw[List.getElem?_map,Ve rfl,Je];rfl)) hA hB
 subst hR
 refine Qc hb ?_
 simp only[go_sem,simprocAttr,Qa]
 refine ⟨G,rfl,?_⟩
 rw[FF];rfl
def V9 (c:Qi):Nd:=⟨c,0,default,default,default,⟨[],0,0,0,0,0,0⟩⟩
def sY (h:List Ob) (c:Qi) (d:D) (h':List Ob):Prop:=
 d=.ptr (h.length+1) 0 0 0∧∃ g lq,h'=h++g∧2≤g.length∧h'[h.length+1]? = some (VS (if c.leaf=true then .ptr lq 0 0 0 else .raw (.pointer none)) (V9 c)) ∧
  (c.leaf=true→∃ k:Nat,c.Za=k∧YA (fun l=>h.length+2≤l) h' lq k c.bytes ⟨[],0,0,0,0,0,0⟩)
@[go_sem] theorem QuA (d d2:D) (n:Nd):d2::List.drop 1 (Jn d n)=Jn d2 n:=rfl
theorem Qo9 (h:List Ob) (c:Qi) (hl:c.leaf=true→1≤c.Za∧c.Za≤64∧1≤c.bytes∧c.bytes≤1048576) :
  QG Tryz.prog 57 h [Vf c] (fun d h'=>sY h c d h'):=by
 obtain ⟨i0,p0,lf,r1,r2,r3,k0,b0⟩:=c
 cases lf with
 | false=>
  refine QW Qe 200 Tryz.func57 rfl Tryz.ntmps57 Tryz.results57 rfl fun base w pl hb=>?_
  simp only[go_sem,simprocAttr,Qa,Qa]
  refine ⟨rfl,_,0,rfl,by simp,?_,fun e=>by cases e⟩
  rw[Ve (k:=1) rfl]
  show some (_:Ob)=some (VS (.raw (.pointer none)) _)
  refine congrArg some ?_
  unfold VS Jn V9
  refine congrArg (Ob.mk .one 0 60 1) ?_
  funext _
  dsimp only
  simp only[Qi.cells,List.cons_append,List.nil_append]
  rfl
 | true=>
  obtain ⟨l1,l2,l3,l4⟩:=hl rfl
  dsimp only at l1 l2 l3 l4
  obtain ⟨k,rfl⟩:∃ k:Nat,k0=k:=⟨k0.toNat,by omega⟩
  refine QW Qe 200 Tryz.func57 rfl Tryz.ntmps57 Tryz.results57 rfl fun base w pl hb=>?_
  simp only[go_sem,simprocAttr,Qa,Qa]
  generalize hE1:(⟨.one,0,14,1,_⟩:Ob)=E1
  generalize hE2:(⟨.one,0,60,1,_⟩:Ob)=E2
  have hE:E2=VS (.raw (.pointer none)) (V9 ⟨i0,p0,true,r1,r2,r3,(k:Int),b0⟩):=by
   rw[← hE2]
   unfold VS Jn V9
   refine congrArg (Ob.mk .one 0 60 1) ?_
   funext _
   dsimp only
   simp only[Qi.cells,List.cons_append,List.nil_append]
   rfl
  obtain ⟨G,hG⟩:∃ G:List Ob,G=[E1,E2]:=⟨_,rfl⟩
  have DB:G.length=2:=by rw[hG];rfl
  have hq:=QlD (h++G) k b0 (by omega) (by omega) l3 l4
  have g1:(h++G)[h.length+1]? = some (VS (.raw (.pointer none)) (V9 ⟨i0,p0,true,r1,r2,r3,(k:Int),b0⟩)):=by rw[hG,← hE];exact Ve (k:=1) rfl
  have zQ:=hq
  rw[hG] at zQ
  refine Q5 hb Qio rfl ?_ zQ rfl fun d h2 hR=>?_
  ·simp only[go_sem,simprocAttr]
  rw[← hG] at hR
  obtain ⟨rfl,Q,g,rfl,hg⟩:=hR
  have gg:(G++g)[1]? = some (VS (.raw (.pointer none)) (V9 ⟨i0,p0,true,r1,r2,r3,(k:Int),b0⟩)):=by rw[hG,← hE];rfl
  have sZ:=Qd gg
  refine Qc hb ?_
  simp only[go_sem,simprocAttr,Qa,gg,sZ]
  have hgl:(h++G).length=h.length+2:=by rw[List.length_append,DB]
  refine ⟨rfl,_,h.length+G.length+2,rfl,by simp [DB],?_,fun _=>⟨k,rfl,?_⟩⟩
  ·rw[Ve (k:=1) rfl]
   rw[Qw sZ]
   rfl
  ·rw[hgl] at Q
   rw[DB]
   refine (Q.step (S':=fun l=>h.length+2≤l) fun l Ze Jd=>⟨Jd,?_⟩)
   have P9:h.length+2≤l:=Jd
   have e:∀ X:Ob,h++(G++g).set 1 X=(h++G++g).set (h.length+1) X:=fun X=>by
    rw[List.append_assoc,List.set_append_right (s:=h) (h.length+1) X (by omega),Nat.add_sub_cancel_left]
   rw[e]
   exact Qt (by omega)
theorem BG {own:Nat→Tag} {h:List Ob} {l:Nat} {t0:Tag} (hl:own l=t0) (o:Ob):∀ t,t≠t0→∀ j,j<h.length→own j=t→own j=t∧(h.set l o)[j]? = h[j]? :=
 fun t ht j _ h1=>⟨h1,Qt (fun e=>ht (by rw[← h1,← e,hl]))⟩
theorem WS {own:Nat→Tag} {h:List Ob} {l:Nat} {t0:Tag} (hl:own l=t0) (o:Ob) {j:Nat} {x:Ob} {t:Tag} (h1:own j=t) (ht:t≠t0) (h2:h[j]? = some x):(h.set l o)[j]? = some x:=
 ((BG hl o t ht j (Qd h2) h1).2).trans h2
section
variable {own:Nat→Tag} {h:List Ob} {p:Nat} {L:Loc} {M:Qj} (C:Q4 own h p L M)
include C
theorem Q4.congrN {N:List Nd} (e:∀ id,Qh N id=Qh M.N id):Q4 own h p L { M with N:=N }:=
 ⟨C.ob,C.op,C.tr,C.JS,C.Wm.to fun id=>by dsimp only;rw[e],C.ow,fun id n hn=>C.Zy id n (by rw[← e];exact hn),fun id n hn=>C.K5 id n (by rw[← e];exact hn),C.Wn,C.Vn,C.J3,C.Vo,C.om,C.kids,fun id n hn=>C.V8 id n (by rw[← e];exact hn)⟩
theorem Q4.Qpc {t2:Nat} {T2:List Qi} (R:Kf (fun l=>own l=.tree) h t2 T2):Q4 own (h.set p (XD M.lk t2 L.b L.o L.v L.m M.Zx M.acc)) p { L with t:=t2 } { M with T:=T2 }:=by
 have r:=BG (h:=h) C.op (XD M.lk t2 L.b L.o L.v L.m M.Zx M.acc)
 exact ⟨Qw (Qd C.ob),C.op,R.step (r _ (by simp)),WS C.op _ C.ow (by simp) C.JS,C.Wm,C.ow,fun j m hm=>⟨WS C.op _ (C.Zy j m hm).2 (by simp) (C.Zy j m hm).1,(C.Zy j m hm).2⟩,fun j m hm hl=>by
  obtain ⟨k,h1,h2⟩:=C.K5 j m hm hl
  exact ⟨k,h1,h2.step (r _ (by simp))⟩,C.Wn.step (r _ (by simp)),C.Vn.step (r _ (by simp)),WS C.op _ C.om (by simp) C.J3,C.Vo,C.om,fun j hj=>(C.kids j hj).step (r _ (by simp)),C.V8⟩
theorem Q4.Qpd {o2:Nat} {T2:List Qi} {A2:List Int} (R:W6 (fun l=>own l=.on) h o2 T2 A2):Q4 own (h.set p (XD M.lk L.t L.b o2 L.v L.m M.Zx M.acc)) p { L with o:=o2 } { M with To:=T2,A:=A2 }:=by
 have r:=BG (h:=h) C.op (XD M.lk L.t L.b o2 L.v L.m M.Zx M.acc)
 exact ⟨Qw (Qd C.ob),C.op,C.tr.step (r _ (by simp)),WS C.op _ C.ow (by simp) C.JS,C.Wm,C.ow,fun j m hm=>⟨WS C.op _ (C.Zy j m hm).2 (by simp) (C.Zy j m hm).1,(C.Zy j m hm).2⟩,fun j m hm hl=>by
  obtain ⟨k,h1,h2⟩:=C.K5 j m hm hl
  exact ⟨k,h1,h2.step (r _ (by simp))⟩,R.step (r _ (by simp)),C.Vn.step (r _ (by simp)),WS C.op _ C.om (by simp) C.J3,C.Vo,C.om,fun j hj=>(C.kids j hj).step (r _ (by simp)),C.V8⟩
end
def z7 (N:List Nd) (id:Int):List Nd:=N.filter fun n=>n.c.iD != id
theorem G2 (N:List Nd) (id j:Int):Qh (z7 N id) j=if j=id then none else Qh N j:=by
 unfold Qh z7
 rw[List.find?_filter]
 split
 ·rename_i e
  subst e
  rw[List.find?_eq_none]
  intro x _
  simp
 ·rename_i e
  congr 1
  funext x
  cases h1:x.c.iD == j with
  | false=>simp [h1]
  | true=>
   have:x.c.iD=j:=by simpa using h1
   simp [this,e]
section
variable {own:Nat→Tag} {h:List Ob} {p:Nat} {L:Loc} {M:Qj} (C:Q4 own h p L M)
include C
theorem Q4.Qpe (id:Int):Q4 own (h.set L.b (QE .i64 L.cb (ZM L.eb id))) p { L with eb:=ZM L.eb id } { M with N:=z7 M.N id }:=by
 have r:=BG (h:=h) C.ow (QE .i64 L.cb (ZM L.eb id))
 have f:∀ j m,Qh (z7 M.N id) j=some m→Qh M.N j=some m:=fun j m hm=>by
  rw[G2] at hm
  split at hm
  ·cases hm
  ·exact hm
 refine ⟨WS C.ow _ C.op (by simp) C.ob,C.op,C.tr.step (r _ (by simp)),Qw (Qd C.JS),(C.Wm.del id).to fun j=>?_,C.ow,fun j m hm=>⟨WS C.ow _ (C.Zy j m (f j m hm)).2 (by simp) (C.Zy j m (f j m hm)).1,(C.Zy j m (f j m hm)).2⟩,fun j m hm hl=>?_,C.Wn.step (r _ (by simp)),C.Vn.step (r _ (by simp)),WS C.ow _ C.om (by simp) C.J3,C.Vo,C.om,fun j hj=>(C.kids j hj).step (r _ (by simp)),fun j m hm=>C.V8 j m (f j m hm)⟩
 ·dsimp only
  rw[G2]
  split
  ·rfl
  ·rfl
 ·obtain ⟨k,h1,h2⟩:=C.K5 j m (f j m hm) hl
  exact ⟨k,h1,h2.step (r _ (by simp))⟩
theorem Q4.Qpf (id:Int):Q4 own (h.set L.m (QE .i64 L.cm (ZM L.em id))) p { L with em:=ZM L.em id } { M with ks:=fun j=>if j=id then false else M.ks j }:=by
 have r:=BG (h:=h) C.om (QE .i64 L.cm (ZM L.em id))
 refine ⟨WS C.om _ C.op (by simp) C.ob,C.op,C.tr.step (r _ (by simp)),WS C.om _ C.ow (by simp) C.JS,C.Wm,C.ow,fun j m hm=>⟨WS C.om _ (C.Zy j m hm).2 (by simp) (C.Zy j m hm).1,(C.Zy j m hm).2⟩,fun j m hm hl=>?_,C.Wn.step (r _ (by simp)),C.Vn.step (r _ (by simp)),Qw (Qd C.J3),(C.Vo.del id).to fun j=>?_,C.om,fun j hj=>?_,C.V8⟩
 ·obtain ⟨k,h1,h2⟩:=C.K5 j m hm hl
  exact ⟨k,h1,h2.step (r _ (by simp))⟩
 ·dsimp only
  by_cases e:j=id <;> simp [e]
 ·dsimp only at hj
  by_cases e:j=id
  ·rw[if_pos e] at hj;cases hj
  ·rw[if_neg e] at hj
   exact (C.kids j hj).step (r _ (by simp))
theorem Q4.Qpg (id:Int) {k:Nat} (T:Kr (fun l=>own l=.Vm id) h k []):∃ c es,J5 .i64 L.cm L.em id (.ptr k 0 0 0)=QE .i64 c es ∧
  Q4 own (h.set L.m (J5 .i64 L.cm L.em id (.ptr k 0 0 0))) p { L with cm:=c,em:=es,lk:=fun j=>if j=id then k else L.lk j } { M with ks:=fun j=>if j=id then true else M.ks j,KT:=fun j=>if j=id then [] else M.KT j }:=by
 obtain ⟨c,es,h1,h2⟩:=C.Vo.set .i64 L.cm id (.ptr k 0 0 0)
 refine ⟨c,es,h1,?_⟩
 rw[h1]
 have r:=BG (h:=h) C.om (QE .i64 c es)
 refine ⟨WS C.om _ C.op (by simp) C.ob,C.op,C.tr.step (r _ (by simp)),WS C.om _ C.ow (by simp) C.JS,C.Wm,C.ow,fun j m hm=>⟨WS C.om _ (C.Zy j m hm).2 (by simp) (C.Zy j m hm).1,(C.Zy j m hm).2⟩,fun j m hm hl=>?_,C.Wn.step (r _ (by simp)),C.Vn.step (r _ (by simp)),Qw (Qd C.J3),h2.to fun j=>?_,C.om,fun j hj=>?_,C.V8⟩
 ·obtain ⟨k,h1,h2⟩:=C.K5 j m hm hl
  exact ⟨k,h1,h2.step (r _ (by simp))⟩
 ·dsimp only
  by_cases e:j=id <;> simp [e]
 ·dsimp only at hj ⊢
  by_cases e:j=id
  ·subst e
   rw[if_pos rfl,if_pos rfl]
   exact T.step (r _ (by simp))
  ·rw[if_neg e] at hj
   rw[if_neg e,if_neg e]
   exact (C.kids j hj).step (r _ (by simp))
theorem Q4.Qph {n:Nd} {e q:Nat} (Cb:Qh M.N n.c.iD=none) (he:h[e]? = some (VS (if n.c.leaf=true then .ptr q 0 0 0 else .raw (.pointer none)) n)) (ho:own e=.YZ n.c.iD)
  (hq:n.c.leaf=true→∃ k:Nat,n.c.Za=k∧YA (fun l=>own l=.Wl n.c.iD) h q k n.c.bytes n.q) (KE:n.Ok):∃ c es,J5 .i64 L.cb L.eb n.c.iD (.ptr e 0 0 0)=QE .i64 c es ∧
  Q4 own (h.set L.b (J5 .i64 L.cb L.eb n.c.iD (.ptr e 0 0 0))) p { L with cb:=c,eb:=es,le:=fun j=>if j=n.c.iD then e else L.le j,lq:=fun j=>if j=n.c.iD then q else L.lq j } { M with N:=n::M.N }:=by
 obtain ⟨c,es,h1,h2⟩:=C.Wm.set .i64 L.cb n.c.iD (.ptr e 0 0 0)
 refine ⟨c,es,h1,?_⟩
 rw[h1]
 have r:=BG (h:=h) C.ow (QE .i64 c es)
 have hf:∀ j,Qh (n::M.N) j=if j=n.c.iD then some n else Qh M.N j:=fun j=>by
  unfold Qh
  rw[List.find?_cons]
  by_cases e:j=n.c.iD
  ·subst e;rw[if_pos rfl,beq_self_eq_true]
  ·rw[if_neg e,Vq (fun x=>e x.symm)]
 have QX:∀ j m,Qh M.N j=some m→m.c.iD=j:=fun j m hm=>Qy.id hm
 have qe:∀ j m,j≠n.c.iD→Qh M.N j=some m→qD (fun j=>if j=n.c.iD then q else L.lq j) m=qD L.lq m:=fun j m hj hm=>by
  unfold qD
  simp only[QX j m hm,if_neg hj]
 refine ⟨WS C.ow _ C.op (by simp) C.ob,C.op,C.tr.step (r _ (by simp)),Qw (Qd C.JS),h2.to fun j=>?_,C.ow,fun j m hm=>?_,fun j m hm hl=>?_,C.Wn.step (r _ (by simp)),C.Vn.step (r _ (by simp)),WS C.ow _ C.om (by simp) C.J3,C.Vo,C.om,fun j hj=>(C.kids j hj).step (r _ (by simp)),fun j m hm=>?_⟩
 ·dsimp only
  rw[hf]
  by_cases e:j=n.c.iD
  ·rw[if_pos e,if_pos e,if_pos e];rfl
  ·rw[if_neg e,if_neg e,if_neg e]
 ·dsimp only at hm ⊢
  rw[hf] at hm
  by_cases e:j=n.c.iD
  ·rw[if_pos e] at hm
   cases hm
   rw[if_pos e,e]
   refine ⟨?_,ho⟩
   rw[WS C.ow _ ho (by simp) he]
   unfold qD
   dsimp only
   rw[if_pos rfl]
  ·rw[if_neg e] at hm
   rw[if_neg e,qe j m e hm]
   exact ⟨WS C.ow _ (C.Zy j m hm).2 (by simp) (C.Zy j m hm).1,(C.Zy j m hm).2⟩
 ·dsimp only at hm ⊢
  rw[hf] at hm
  by_cases e:j=n.c.iD
  ·rw[if_pos e] at hm
   cases hm
   rw[if_pos e,e]
   obtain ⟨k,g1,g2⟩:=hq hl
   exact ⟨k,g1,g2.step (r _ (by simp))⟩
  ·rw[if_neg e] at hm
   rw[if_neg e]
   obtain ⟨k,g1,g2⟩:=C.K5 j m hm hl
   exact ⟨k,g1,g2.step (r _ (by simp))⟩
 ·dsimp only at hm
  rw[hf] at hm
  by_cases e:j=n.c.iD
  ·rw[if_pos e] at hm
   cases hm
   exact KE
  ·rw[if_neg e] at hm
   exact C.V8 j m hm
end
def Z8 (T2:List Qi) (M:Qj) (id:Int):Qj:=
 match Qr T2 id with
 | none=>{ M with N:=z7 M.N id,ks:=fun j=>if j=id then false else M.ks j }
 | some c=>if c.leaf=true then { M with N:=V9 c::z7 M.N id,ks:=fun j=>if j=id then false else M.ks j }
  else { M with N:=V9 c::z7 M.N id,ks:=fun j=>if j=id then true else M.ks j,KT:=fun j=>if j=id then [] else M.KT j }
def KO (M:Qj) (T2:List Qi):Qj:=(Jm M.T T2).foldl (Z8 T2) { M with T:=T2 }
def YL (M:Qj) (T2:List Qi) (b:Bool):Bool:=(Jm M.T T2).any (z6 M) || (Mz M.T T2 && (!b || decide (0<(JZ M).length)))
def Xd (M:Qj) (T2:List Qi):List Nd:=T2.map fun c=>QC (KO M T2) c.iD
def YM (T2:List Qi) (A:List Int) (id:Int):List Int:=if 1<QH ((Qr T2 id).getD default).ls then id::A else A
def WT (M:Qj) (T2:List Qi):Qj:={ KO M T2 with N:=Xd M T2,To:=T2,A:=[] }
def z8 (M:Qj) (T2:List Qi):Qj:={ WT M T2 with A:=(JZ (WT M T2)).foldl (YM T2) [] }
def q8 (M:Qj) (b:Bool) (l:List ZP):Int:=
 if zT M.T M.lk.t l≠0 then zT M.T M.lk.t l else if YL M (j7 M.T l) b=true then 24 else 0
def xw (M:Qj) (l:List ZP):Nat:=if zT M.T M.lk.t l≠0 then DE M.T l else 0
def Xe (M:Qj) (b:Bool) (l:List ZP):Qj:=if q8 M b l=0 then z8 M (j7 M.T l) else M
theorem Qpi (h:List Ob) (c:Qi) (hl:c.leaf=true→1≤c.Za∧c.Za≤64∧1≤c.bytes∧c.bytes≤1048576) :
  Kp Tryz.prog 57 h [Vf c] (fun d g=>sY h c d (h++g)):=by
 refine QG.mono (Qo9 (h.map Ob.ro) c hl) ?_
 rintro d h' ⟨rfl,g,lq,rfl,h1,h2,h3⟩
 refine ⟨g,rfl,by rw[List.length_map],g,lq,rfl,h1,?_,fun X3=>?_⟩
 ·rw[List.length_map] at h2
  rw[List.getElem?_append_right (by rw[List.length_map];omega),List.length_map] at h2
  rw[List.getElem?_append_right (by omega)]
  exact h2
 ·obtain ⟨k,hk,Q⟩:=h3 X3
  refine ⟨k,hk,Q.step fun l _ Jd=>?_⟩
  have P9:h.length+2≤l:=by
   have:(h.map Ob.ro).length+2≤l:=Jd
   rwa [List.length_map] at this
  exact ⟨P9,by rw[List.getElem?_append_right (by omega),List.getElem?_append_right (by rw[List.length_map];omega),List.length_map]⟩
theorem ta {c:Qi} (h:Qi.Ok c):(V9 c).Ok:=
 have z:(0:Nat)<18446744073709551616:=by decide
 ⟨z,⟨⟨Ln.X7,Ln.X7⟩,⟨Ln.X7,Ln.X7⟩,z,Nat.zero_le _,Nat.zero_le _⟩,⟨⟨Ln.X7,Ln.X7⟩,z⟩,⟨⟨Ln.X7,Ln.X7⟩,Nat.zero_le _⟩,h⟩
theorem Qpj (A B:List Qi):(Jm A B).length≤A.length+B.length:=by
 have h1:=Dy (fun i=>(sorted (qV A B)).getD i 0) (sorted (qV A B)).length
 have h2:(sorted (qV A B)).length=(qV A B).length:=yn _
 have h3:(qV A B).length≤(A.map (·.iD)++B.map (·.iD)).length:=List.length_filter_le _ _
 have h4:(Jm A B).length≤(sorted (qV A B)).length:=by simpa [Jm,Xa] using h1
 simp at h3
 omega
section
variable {T2:List Qi} (hr:KH T2)
include hr
theorem Qpk (M:Qj) (j id:Int):Qh (Z8 T2 M j).N id=if id=j then (Qr T2 id).map V9 else Qh M.N id:=by
 unfold Z8
 cases hf:Qr T2 j with
 | none=>
  dsimp only
  rw[G2]
  by_cases e:id=j
  ·subst e;rw[if_pos rfl,if_pos rfl,hf];rfl
  ·rw[if_neg e,if_neg e]
 | some c=>
  have Nj:=((KQ hr).1 hf).2
  have key:Qh (V9 c::z7 M.N j) id=if id=j then (Qr T2 id).map V9 else Qh M.N id:=by
   by_cases e:id=j
   ·subst e
    rw[if_pos rfl,hf]
    unfold Qh
    rw[List.find?_cons,show ((V9 c).c.iD == id)=true by rw[show (V9 c).c.iD=c.iD from rfl,Nj];exact beq_self_eq_true _]
    rfl
   ·rw[if_neg e]
    have:Qh (V9 c::z7 M.N j) id=Qh (z7 M.N j) id:=by
     unfold Qh
     rw[List.find?_cons,show ((V9 c).c.iD == id)=false by rw[show (V9 c).c.iD=c.iD from rfl,Nj];exact Vq (fun x=>e x.symm)]
    rw[this,G2,if_neg e]
  dsimp only
  split
  ·exact key
  ·exact key
theorem yR (id:Int):∀ (l:List Int) (M:Qj),Qh (l.foldl (Z8 T2) M).N id=if id∈l then (Qr T2 id).map V9 else Qh M.N id
 | [],M=>by simp
 | j::l,M=>by
  rw[List.foldl_cons,yR id l,Qpk hr]
  by_cases h1:id∈l
  ·rw[if_pos h1,if_pos (List.mem_cons_of_mem _ h1)]
  ·rw[if_neg h1]
   by_cases h2:id=j
   ·rw[if_pos h2,if_pos (by rw[h2];exact List.mem_cons_self)]
   ·rw[if_neg h2,if_neg (by simp [h1,h2])]
omit hr in
theorem Qpl (M:Qj) (j id:Int):(Z8 T2 M j).ks id=if id=j then (match Qr T2 id with | none=>false | some c=>!c.leaf) else M.ks id:=by
 unfold Z8
 by_cases e:id=j
 ·subst e
  rw[if_pos rfl]
  cases hf:Qr T2 id with
  | none=>simp
  | some c=>cases hl:c.leaf <;> simp [hl]
 ·rw[if_neg e]
  cases hf:Qr T2 j with
  | none=>simp [e]
  | some c=>cases hl:c.leaf <;> simp [e,hl]
omit hr in
theorem tc (id:Int):∀ (l:List Int) (M:Qj),(l.foldl (Z8 T2) M).ks id=if id∈l then (match Qr T2 id with | none=>false | some c=>!c.leaf) else M.ks id
 | [],M=>by simp
 | j::l,M=>by
  rw[List.foldl_cons,tc id l,Qpl]
  by_cases h1:id∈l
  ·rw[if_pos h1,if_pos (List.mem_cons_of_mem _ h1)]
  ·rw[if_neg h1]
   by_cases h2:id=j
   ·rw[if_pos h2,if_pos (by rw[h2];exact List.mem_cons_self)]
   ·rw[if_neg h2,if_neg (by simp [h1,h2])]
omit hr in
theorem Qpm (M:Qj) (j id:Int) {x:It} (h:x∈(Z8 T2 M j).KT id):x∈M.KT id:=by
 unfold Z8 at h
 split at h
 ·exact h
 ·split at h
  ·exact h
  ·dsimp only at h
   split at h
   ·cases h
   ·exact h
omit hr in
theorem Nk (id:Int) {x:It}:∀ (l:List Int) (M:Qj),x∈(l.foldl (Z8 T2) M).KT id→x∈M.KT id
 | [],M,h=>h
 | j::l,M,h=>Qpm M j id (Nk id l (Z8 T2 M j) h)
omit hr in
theorem td (M:Qj) (j:Int):(Z8 T2 M j).T=M.T∧(Z8 T2 M j).Lv=M.Lv∧(Z8 T2 M j).lk=M.lk∧(Z8 T2 M j).Zx=M.Zx∧(Z8 T2 M j).acc=M.acc:=by
 unfold Z8
 split
 ·exact ⟨rfl,rfl,rfl,rfl,rfl⟩
 ·split <;> exact ⟨rfl,rfl,rfl,rfl,rfl⟩
omit hr in
theorem G3:∀ (l:List Int) (M:Qj),(l.foldl (Z8 T2) M).T=M.T∧(l.foldl (Z8 T2) M).Lv=M.Lv∧(l.foldl (Z8 T2) M).lk=M.lk∧(l.foldl (Z8 T2) M).Zx=M.Zx∧(l.foldl (Z8 T2) M).acc=M.acc
 | [],M=>⟨rfl,rfl,rfl,rfl,rfl⟩
 | j::l,M=>by
  obtain ⟨a1,a2,a3,a4,a5⟩:=G3 l (Z8 T2 M j)
  obtain ⟨b1,b2,b3,b4,b5⟩:=td (T2:=T2) M j
  rw[List.foldl_cons]
  exact ⟨a1.trans b1,a2.trans b2,a3.trans b3,a4.trans b4,a5.trans b5⟩
end
section
variable {M:Qj} {T2:List Qi} (I:Qy M) (I2:JA T2)
include I I2
theorem te (id:Int):(Qh (KO M T2).N id).map (·.c)=Qr T2 id:=by
 unfold KO
 rw[yR I2.rising]
 by_cases h:id∈Jm M.T T2
 ·rw[if_pos h]
  cases Qr T2 id <;> rfl
 ·rw[if_neg h]
  have:=fun e=>h (Bv.2 e)
  have e:Qr M.T id=Qr T2 id:=Classical.byContradiction this
  rw[← e,I.find]
theorem tf {c:Qi} (hc:c∈T2):Qh (KO M T2).N c.iD=some (QC (KO M T2) c.iD)∧(QC (KO M T2) c.iD).c=c:=by
 have h1:=te I I2 c.iD
 rw[(KQ I2.rising).2 ⟨hc,rfl⟩] at h1
 unfold QC
 cases hn:Qh (KO M T2).N c.iD with
 | none=>rw[hn] at h1;cases h1
 | some n=>
  rw[hn,Option.map_some,Option.some.injEq] at h1
  exact ⟨rfl,h1⟩
theorem th:(Xd M T2).map (·.c)=T2:=by
 unfold Xd
 rw[List.map_map]
 conv=>rhs;rw[← List.map_id T2]
 exact List.map_congr_left fun c hc=>(tf I I2 hc).2
theorem BH:∀ id,Qh (Xd M T2) id=Qh (KO M T2).N id:=fun id=>by
 have h1:=SE (Xd M T2) id
 rw[th I I2] at h1
 have h2:=te I I2 id
 cases hn:Qh (Xd M T2) id with
 | none=>
  rw[hn] at h1
  rw[h1] at h2
  cases hm:Qh (KO M T2).N id with
  | none=>rfl
  | some m=>rw[hm] at h2;cases h2
 | some n=>
  have KV:n∈Xd M T2:=List.mem_of_find?_eq_some hn
  have QX:=Qy.id (M:=WT M T2) hn
  obtain ⟨c,hc,rfl⟩:=List.mem_map.1 KV
  obtain ⟨h3,h4⟩:=tf I I2 hc
  rw[h4] at QX
  rw[← QX,h3]
theorem No (K2:qn T2) {b:Bool} (hb:YL M T2 b=false) (ja:∀ x∈M.Lv,x.ki∈JZ M) (yS:∀ id,∀ x∈M.KT id,∃ n∈JZ M,x.ki∈up M.T n):Qy (WT M T2):=by
 obtain ⟨s1,s2,s3,s4,s5⟩:=G3 (T2:=T2) (Jm M.T T2) { M with T:=T2 }
 have hT:(WT M T2).T=T2:=s1
 have Cu:∀ id,z6 M id=true→Qr T2 id=Qr M.T id:=fun id G4=>by
  refine Classical.byContradiction fun e=>?_
  have hm:=Bv.2 (fun x=>e x.symm:Qr M.T id≠Qr T2 id)
  unfold YL at hb
  rw[show (Jm M.T T2).any (z6 M)=true from List.any_eq_true.2 ⟨id,hm,G4⟩] at hb
  cases hb
 have yq:∀ x n,n∈JZ M→x∈up M.T n→z6 M x=true:=fun x n h1 h2=>List.any_eq_true.2 ⟨n,h1,by simpa using h2⟩
 have h0:(0:Int) ∉ Jm M.T T2:=fun h=>by
  have f0:∀ T:List Qi,JA T→Qr T 0=none:=fun T I=>by
   rw[yo]
   intro c hc e
   have:=I.ids c hc
   omega
  exact Bv.1 h (by rw[f0 _ I.tree,f0 _ I2])
 refine ⟨by rw[hT];exact I2,by rw[hT];exact K2,hT.symm,hT.trans (th I I2).symm,fun a ha=>(List.not_mem_nil ha).elim,fun id=>?_,fun x hx=>?_,fun id x hx=>?_,fun id x hx=>?_,?_,?_⟩
 ·show (KO M T2).ks id=true↔id=0∨∃ n,Qh (Xd M T2) id=some n∧n.c.leaf=false
  rw[BH I I2]
  unfold KO
  rw[tc,yR I2.rising]
  by_cases h:id∈Jm M.T T2
  ·rw[if_pos h,if_pos h]
   have QD:id≠0:=fun e=>h0 (e▸h)
   cases Qr T2 id with
   | none=>simp [QD]
   | some c=>simp [QD,V9]
  ·rw[if_neg h,if_neg h]
   exact I.ks id
 ·have KD:x∈M.Lv:=by rw[← s2];exact hx
  have hl:=ja x KD
  obtain ⟨n,hn,_,_⟩:=Nh I (List.mem_filter.1 (show x.ki∈(Yf M.T).filter _ from hl)).1
  have hs:x.ki∈up M.T x.ki:=by
   rw[Pz I.tree,I.some hn]
   exact List.mem_cons_self
  rw[hT,Cu _ (yq _ _ hl hs)]
  exact I.zU x KD
 ·have KD:x∈M.KT id:=Nk id (Jm M.T T2) { M with T:=T2 } hx
  obtain ⟨c,h1,h2⟩:=I.Ya id x KD
  obtain ⟨n,h3,h4⟩:=yS id x KD
  exact ⟨c,by rw[hT,Cu _ (yq _ _ h3 h4)];exact h1,h2⟩
 ·exact I.YG id x (Nk id (Jm M.T T2) { M with T:=T2 } hx)
 ·show (KO M T2).Zx≤_
  exact s4▸I.Zx
 ·show (KO M T2).acc≤_
  exact s5▸I.acc
end
end Go.Fg.X
