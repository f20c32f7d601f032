/- Contracts and laws on the way to the statement. No conditions. -/
import Derived.Test.YtklmjinbhnoppaaGreatSCm
import Derived.Test.YtklmjinbhnoppaaGreatYHr
set_option maxRecDepth 100000
set_option maxHeartbeats 16000000
set_option linter.unusedVariables false
set_option linter.unusedSimpArgs false
set_option linter.unusedSectionVars false
namespace Go.Fg.X
open Go.Proofs Go.Fg
open Go.Proofs.Tryz
section
variable {h:List Ob} {p:Nat} {L:Loc} {M:Qh} (C:Ww h p L M)
include C
theorem Qqm:QP prog 24 h [.ptr p 0 0 0] (fun d=>d=u64 M.acc):=by
 have ho:=C.ob
 refine Zi Qe 200 func24 rfl ntmps24 results24 rfl fun base w pl F hF QS hb=>?_
 rw[← hF]at ho
 have Qf:=Qd ho
 simp only[go_sem,simprocAttr,Qa,ho,Qf]
 exact⟨[],(List.append_nil F).symm⟩
def Iv (L:List It):Nat:=match L.head? with
 | some x=>min x.ka never
 | none=>never
def qn (M:Qh):Nat:=min (Iv M.Lv) (jy (M.KT 0))
theorem Qqn (I:Qy M):QP prog 13 h [.ptr p 0 0 0] (fun d=>d=u64 (qn M)):=by
 have ho:=C.ob
 have hm:=C.J5
 have xm:M.ks 0=true:=(I.ks 0).2 (.inl rfl)
 have Wv:=C.Vm.at_ 0
 rw[if_pos xm]at Wv
 have hK:=C.kids 0 xm
 refine Zi Qe 200 func13 rfl ntmps13 results13 rfl fun base w pl F hF QS hb=>?_
 rw[← hF]at ho hm
 have Qf:=Qd ho
 have QO:=Qd hm
 simp only[go_sem,simprocAttr,Qa,ho,Qf,hm,QO,Wv]
 refine QA Qe hb 200 mixed [(0,true),(1,true),(2,true),(3,true),(5,true),(6,true),(7,true),(8,true),(9,true),(4,false),(10,false),(11,true),(12,true)] (by kernel_rfl) (by kernel_rfl) ?_
 simp only[go_sem,simprocAttr,Qa,ho,Qf,hm,QO,Wv]
 have hN:QP prog 32 F [.ptr L.v 0 0 0] (fun d=>d=u64 (Iv M.Lv)):=Qlt (C.VC.more (Jk hF))
 refine Z3 hb Qim rfl ?_ hN rfl fun d hR=>?_
 ·simp only[go_sem,simprocAttr,Qa,ho,Qf]
 subst hR
 refine QF hb ?_
 simp only[go_sem,simprocAttr,Qa,ho,Qf]
 refine Z3 hb Rw rfl ?_ (Tb (hK.more (Jk hF)) (I.Yz 0)) rfl fun d hR=>?_
 ·simp only[go_sem,simprocAttr,Qa,ho,Qf]
 subst hR
 refine QF hb ?_
 simp only[go_sem,simprocAttr,Qa,ho,Qf]
 refine⟨[],(List.append_nil F).symm,?_⟩
 unfold qn
 rw[Nat.min_def,Int.min_def]
 congr 2
 split<;>split<;>omega
end
theorem Qqo {own:Nat→Tag} {h:List Ob} {p:Nat} {L:Loc} {M:Qh} (C:Q7 own h p L M):QH prog 20 h [.ptr p 0 0 0] (fun d h'=>d=.ptr (h.length+1) 0 0 0∧Ke (fun l=>h.length≤l) h' (h.length+1) M.T∧∃g,h'=h++g∧g.length=2):=by
 have ho:=C.ob
 refine QX Qe 200 func20 rfl ntmps20 results20 rfl fun base w pl hb=>?_
 have Qf:=Qd ho
 simp only[go_sem,simprocAttr,Qa,ho,Qf]
 refine QT hb n9 rfl ?_ (sD C.tr) rfl fun d h2 hR=>?_
 ·simp only[go_sem,simprocAttr]
 obtain⟨rfl,R,g,rfl,hg⟩:=hR
 refine Qc hb ?_
 simp only[go_sem,simprocAttr,Qa]
 exact⟨R,g,rfl,hg⟩
theorem Ww.OL {h:List Ob} {p:Nat} {L:Loc} {M:Qh} (C:Ww h p L M) (I:Qy M):Av h L.o M.T M.A:=by
 have:=C.Ws
 rwa [I.to]at this
theorem Qqp {h:List Ob} {p:Nat} {L:Loc} {M:Qh} (C:Ww h p L M) (I:Qy M) {id:Int} {n:Nd} (hn:Qg M.N id=some n):QP prog 64 h [.ptr p 0 0 0,.ptr (L.le id) 0 0 0] (fun d=>d=u64 (KD M id n)):=by
 have ho:=C.ob
 have he:=C.Zz id n hn
 have hm:=C.J5
 have QQ:=Qy.id hn
 have zq:=wo (C.OL I) I.tree I.VD id (I.AN hn)
 unfold KD
 cases hl:n.c.leaf with
 | true=>
  rw[if_pos (.inl rfl)]
  refine Zi Qe 200 func64 rfl ntmps64 results64 rfl fun base w pl F hF QS hb=>?_
  rw[← hF]at ho he
  have Qf:=Qd ho
  have Zm:=Qd he
  simp only[go_sem,simprocAttr,Qa,ho,Qf,he,Zm]
  refine QA Qe hb 200 mixed [(0,true),(1,true),(2,true),(3,true),(4,true),(5,true),(6,true),(7,true),(8,true),(9,true),(10,true),(11,true),(12,true),(13,true),(14,true),(15,false),(16,true),(17,true)] (by kernel_rfl) (by kernel_rfl) ?_
  simp only[go_sem,simprocAttr,Qa,ho,Qf,he,Zm,hl,Go.undef]
  all_goals first|exact⟨_,rfl,rfl⟩|exact⟨_,rfl⟩|rfl|exact⟨[],(List.append_nil _).symm⟩|exact⟨[],(List.append_nil _).symm,rfl⟩
 | false=>
  have WK:M.ks id=true:=(I.ks id).2 (.inr ⟨n,hn,hl⟩)
  have Wv:=C.Vm.at_ id
  rw[if_pos WK]at Wv
  have hT:=C.kids id WK
  have Yo:Zu M.T M.A id=ZG M id:=rfl
  rw[Yo]at zq
  cases ha:ZG M id with
  | false=>
   rw[ha]at zq
   rw[if_pos (.inr rfl)]
   refine Zi Qe 200 func64 rfl ntmps64 results64 rfl fun base w pl F hF QS hb=>?_
   rw[← hF]at ho he
   have Qf:=Qd ho
   have Zm:=Qd he
   simp only[go_sem,simprocAttr,Qa,ho,Qf,he,Zm]
   refine QA Qe hb 200 mixed [(0,true),(1,true),(2,true),(3,true),(4,true),(5,true),(6,true),(7,true),(8,true),(9,true),(10,true),(11,true),(12,true),(13,true),(14,true),(15,false),(16,true),(17,true)] (by kernel_rfl) (by kernel_rfl) ?_
   simp only[go_sem,simprocAttr,Qa,ho,Qf,he,Zm,hl,Go.undef]
   have qW:Zu M.T M.A id=false:=ha
   refine Z3 hb Ah rfl ?_ (wo ((C.OL I).more (Jk hF)) I.tree I.VD id (I.AN hn)) rfl fun d hR=>?_
   ·simp only[go_sem,simprocAttr,Qa,ho,Qf,he,Zm,hl,Go.undef,QQ,qW]
   subst hR
   refine QF hb ?_
   simp only[go_sem,simprocAttr,Qa,ho,Qf,he,Zm,hl,Go.undef,QQ,qW]
   all_goals first|exact⟨_,rfl,rfl⟩|exact⟨_,rfl⟩|rfl|exact⟨[],(List.append_nil _).symm⟩|exact⟨[],(List.append_nil _).symm,rfl⟩
  | true=>
   rw[ha]at zq
   rw[if_neg (by simp)]
   have qW:Zu M.T M.A id=true:=ha
   refine Zi Qe 200 func64 rfl ntmps64 results64 rfl fun base w pl F hF QS hb=>?_
   rw[← hF]at ho he hm
   have Qf:=Qd ho
   have Zm:=Qd he
   have QO:=Qd hm
   simp only[go_sem,simprocAttr,Qa,ho,Qf,he,Zm,hm,QO]
   refine QA Qe hb 200 mixed [(0,true),(1,true),(2,true),(3,true),(4,true),(5,true),(6,true),(7,true),(8,true),(9,true),(10,true),(11,true),(12,true),(13,true),(14,true),(15,false),(16,true),(17,true)] (by kernel_rfl) (by kernel_rfl) ?_
   simp only[go_sem,simprocAttr,Qa,ho,Qf,he,Zm,hl,Go.undef]
   refine Z3 hb Ah rfl ?_ (wo ((C.OL I).more (Jk hF)) I.tree I.VD id (I.AN hn)) rfl fun d hR=>?_
   ·simp only[go_sem,simprocAttr,Qa,ho,Qf,he,Zm,hl,Go.undef,QQ,qW]
   subst hR
   refine QF hb ?_
   simp only[go_sem,simprocAttr,Qa,ho,Qf,he,Zm,hl,Go.undef,QQ,qW]
   refine QA Qe hb 200 mixed [(0,true),(1,true),(2,true),(3,true),(4,true),(5,true),(6,true),(7,true),(8,true),(9,true),(10,true),(11,true),(12,true),(13,true),(14,true),(15,false),(16,false),(17,true)] (by kernel_rfl) (by kernel_rfl) ?_
   simp only[go_sem,simprocAttr,Qa,ho,Qf,he,Zm,hm,QO,Wv,QQ]
   refine Z3 hb Rw rfl ?_ (Tb (hT.more (Jk hF)) (I.Yz id)) rfl fun d hR=>?_
   ·simp only[go_sem,simprocAttr,Qa,ho,Qf,he,Zm,hm,QO]
   subst hR
   refine QF hb ?_
   simp only[go_sem,simprocAttr,Qa,ho,Qf,he,Zm,hm,QO]
   refine Zt hb ox rfl ?_ (sC n.cp.fit (jy (M.KT id))) (Ql.flat rfl) rfl fun d h hR=>?_
   ·simp only[go_sem,simprocAttr,Qa]
   obtain⟨rfl,rfl⟩:=hR
   refine QF hb ?_
   simp only[go_sem,simprocAttr,Qa]
   all_goals first|exact⟨_,rfl,rfl⟩|exact⟨_,rfl⟩|rfl|exact⟨[],(List.append_nil _).symm⟩|exact⟨[],(List.append_nil _).symm,rfl⟩
theorem Qqq (h:List Ob):QP prog 65 h [.raw (.pointer none)] (fun d=>d=.agg (⟨[],0,0,0,0,0,0⟩:Qu).Hn):=by
 refine Zi Qe 200 func65 rfl ntmps65 results65 rfl fun base w pl F hF QS hb=>?_
 simp only[go_sem,simprocAttr,Qa]
 exact⟨_,rfl⟩
def Qqr (M:Qh) (id:Int) (n:Nd):List D:=n.c.cells++(QN (ZG M id)::u64 n.ZM::(n.du.cells++(n.sh.cells++(n.cp.cells++(u64 (KD M id n)::n.q.Hn)))))
theorem Qqs {h:List Ob} {p:Nat} {L:Loc} {M:Qh} (C:Ww h p L M) (I:Qy M) {id:Int} {n:Nd} (hn:Qg M.N id=some n) (hq:n.c.leaf=false→n.q=⟨[],0,0,0,0,0,0⟩) :
  QP prog 22 h [.ptr p 0 0 0,Qb id] (fun d=>d=.tup [.agg (Qqr M id n),Qb 0]):=by
 have ho:=C.ob
 have hy:=C.JK
 have he:=C.Zz id n hn
 have VN:=C.look hn
 have QQ:=Qy.id hn
 refine Yk Qe 200 func22 rfl ntmps22 results22 rfl fun base w pl F hF QS hb=>?_
 rw[← hF]at ho hy he
 have Qf:=Qd ho
 have KJ:=Qd hy
 have Zm:=Qd he
 simp only[go_sem,simprocAttr,Qa,ho,Qf,hy,KJ,he,Zm,VN]
 refine QA Qe hb 200 mixed [(0,true),(1,true),(2,true),(3,true),(4,true),(5,true),(6,true),(7,true),(8,true),(10,true),(11,true),(12,true),(13,true),(14,true),(15,true),(16,true),(17,true),(18,true),(19,true),(20,true),(21,true),(22,true),(23,true),(24,true),(25,true),(26,true),(27,true),(29,true),(30,true),(31,true),(32,true),(9,false),(28,false),(33,false),(34,true),(35,false),(36,true)] (by kernel_rfl) (by kernel_rfl) ?_
 simp only[go_sem,simprocAttr,Qa,ho,Qf,hy,KJ,he,Zm,VN]
 have CF:=fun G:List Ob=>(C.more (Jk hF)).more (wm (g:=G))
 refine Z3 hb Ah rfl ?_ (wo ((CF _).OL I) I.tree I.VD id (I.AN hn)) rfl fun d hR=>?_
 ·simp only[go_sem,simprocAttr,Qa,ho,Qf,he,Zm]
 subst hR
 refine QF hb ?_
 simp only[go_sem,simprocAttr,Qa,ho,Qf,he,Zm]
 refine Z3 hb oa rfl ?_ (Qqp (CF _) I hn) rfl fun d hR=>?_
 ·simp only[go_sem,simprocAttr,Qa,ho,Qf,he,Zm]
 subst hR
 refine QF hb ?_
 simp only[go_sem,simprocAttr,Qa,ho,Qf,he,Zm]
 have hC:∀G:List Ob,QP prog 65 (F++G) [qD L.lq n] (fun d=>d=.agg n.q.Hn):=fun G=>by
  unfold qD
  cases hl:n.c.leaf with
  | true=>
   obtain⟨k,_,Q⟩:=(CF G).KL id n hn hl
   rw[if_pos rfl,QQ]
   exact Ql9 Q
  | false=>
   rw[if_neg Bool.false_ne_true,hq hl]
   exact Qqq _
 refine Z3 hb QiB rfl ?_ (hC _) rfl fun d hR=>?_
 ·simp only[go_sem,simprocAttr,Qa]
  exact xM _
 subst hR
 refine QF hb ?_
 simp only[go_sem,simprocAttr,Qa,ho,Qf,he,Zm]
 exact⟨_,rfl,rfl⟩
end Go.Fg.X
namespace Go.Fg.X
open Go.Proofs Go.Fg
end Go.Fg.X
namespace Go.Fg.X
open Go.Proofs Go.Fg
open Go.Proofs.Tryz
def lnI (M:Qh) (id:Int):Nat:=(Qx M id).q.l.length
def byI (M:Qh) (id:Int):Nat:=VA (Qx M id).q.l
def Qar (f:Int→Nat) (l:List Int):Nat:=(l.map f).sum
structure QvH (p m c:Nat) (es:List QM) (M:Qh) (F:List Ob) (n:Nat) (s:St):Prop where
 ex:∃seen out H,zy es seen=n∧JR F H∧out.Perm ((es.filter fun e=>seen.contains e.b&&true).map (·.k))∧H[F.length]? = some (VF m c c seen) ∧
  s=⟨[(0,.ptr p 0 0 0),(4,Qb (Qar (lnI M) out)),(5,Qb (Qar (byI M) out)),(14,.mref F.length 0)],H⟩
structure Good (M:Qh):Prop where
 lv:∀x∈M.Lv,∃n,Qg M.N x.ki=some n∧n.c.leaf=true∧n.q.l≠[]
 kt:∀id,∀x∈M.KT id,ZG M x.ki=true
 act:∀id,id∈M.A↔∃n,Qg M.N id=some n∧n.c.leaf=true∧n.q.l≠[]∧1<QI n.c.ls
section
variable {M:Qh} (I:Qy M) (G:Good M)
include I G
theorem Good.Qas {id:Int} {n:Nd} (hn:Qg M.N id=some n) (hl:n.c.leaf=true) (hq:n.q.l≠[]):id∈J6 M:=by
 have hc:=I.some hn
 obtain⟨h1,h2⟩:=(KY I.tree.rising).1 hc
 refine List.mem_filter.2 ⟨List.mem_map.2 ⟨n.c,List.mem_filter.2 ⟨h1,hl⟩,h2⟩,?_⟩
 unfold yu Qx
 rw[hn]
 cases qT:n.q.l with
 | nil=>exact absurd qT hq
 | cons x l=>simp [qT]
theorem Good.hA (cls:Int):∀n,Qg M.N cls=some n→n.c.leaf=true→n.q.l=[]→cls ∉ M.A:=fun n hn hl hq ha=>by
 obtain⟨m,hm,_,h3,_⟩:=(G.act cls).1 ha
 rw[hn]at hm
 cases hm
 exact h3 hq
theorem Good.jS:∀x∈M.Lv,x.ki∈J6 M:=fun x hx=>by
 obtain⟨n,h1,h2,h3⟩:=G.lv x hx
 exact Good.Qas I G h1 h2 h3
theorem Good.AS:∀id,∀x∈M.KT id,∃n∈J6 M,x.ki∈up M.T n:=fun id x hx=>by
 obtain⟨a,ha,hu⟩:=V6.1 (G.kt id x hx)
 obtain⟨n,h1,h2,h3,_⟩:=(G.act a).1 ha
 exact⟨a,Good.Qas I G h1 h2 h3,hu⟩
theorem Good.leaf {id:Int} {n:Nd} (hn:Qg M.N id=some n) (hl:n.c.leaf=true) (ha:ZG M id=true):n.q.l≠[]∧id∈M.A:=by
 have h1:=(Ou I.tree (I.some hn) hl M.A).1 ha
 obtain⟨m,hm,_,h3,_⟩:=(G.act id).1 h1
 rw[hn]at hm
 cases hm
 exact⟨h3,h1⟩
theorem Good.share (now:Nat):∀k p id,jL M now k p=some id→∃n,Qg M.N id=some n∧n.c.leaf=true∧ZG M id=true
 | 0,_,_,h=>by cases h
 | k+1,p,id,h=>by
  unfold jL at h
  cases hf:firstM M now p with
  | none=>rw[hf]at h;cases h
  | some x=>
   rw[hf]at h
   dsimp only at h
   have hm:x∈M.KT p:=List.mem_of_find?_eq_some hf
   split at h
   ·rename_i hl
    cases h
    have hs:=I.Uu p x hm
    rw[I.find]at hs
    cases hn:Qg M.N x.ki with
    | none=>rw[hn]at hs;cases hs
    | some n=>exact⟨n,rfl,by unfold Qx at hl;rw[hn]at hl;exact hl,G.kt p x hm⟩
   ·exact Good.share now k x.ki id h
theorem Good.UJ (now:Nat):∀o id r,qZ M now o→JW M now o=some (id,r)→∃n,Qg M.N id=some n∧n.c.leaf=true∧n.q.l≠[]∧(1<QI n.c.ls→id∈M.A):=fun o id r ho hp=>by
 cases o with
 | some x=>
  simp only[JW,Option.some.injEq,Prod.mk.injEq]at hp
  obtain⟨rfl,rfl⟩:=hp
  have hx:x∈M.Lv:=(List.mem_filter.1 ho.1).1
  obtain⟨n,h1,h2,h3⟩:=G.lv x hx
  exact⟨n,h1,h2,h3,fun h4=>(G.act x.ki).2 ⟨n,h1,h2,h3,h4⟩⟩
 | none=>
  simp only[JW,Option.map_eq_some_iff]at hp
  obtain⟨i,hi,he⟩:=hp
  cases he
  obtain⟨n,h1,h2,h3⟩:=Good.share I G now 17 0 _ hi
  obtain⟨h4,h5⟩:=Good.leaf I G h1 h2 h3
  exact⟨n,h1,h2,h4,fun _=>h5⟩
omit I in
theorem Good.told (now:Nat):Good (Zn M now):=by
 unfold Zn
 split
 ·exact⟨G.lv,G.kt,G.act⟩
 ·exact G
end
theorem Good.Js {M:Qh} (G:Good M) (id:Int):Good (Js M id):=by
 unfold X.Js
 split
 ·rename_i ha
  refine⟨G.lv,fun j x hx=>?_,G.act⟩
  show ZG M x.ki=true
  dsimp only at hx
  split at hx
  ·rcases HQ hx with e|e
   ·rw[e];exact ha
   ·exact G.kt _ x e
  ·exact G.kt j x hx
 ·exact G
theorem Good.JT:∀(l:List Int) {M:Qh},Good M→Good (JT M l)
 | [],M,G=>G
 | id::l,M,G=>Good.JT l (G.Js id)
theorem Good.QqB {M M':Qh} (G:Good M) (hL:M'.Lv=M.Lv) (hK:M'.KT=M.KT) (hT:M'.T=M.T) (hA:M'.A=M.A) (hN:∀id,(Qg M'.N id).map (fun n=>(n.c,n.q))=(Qg M.N id).map (fun n=>(n.c,n.q))):Good M':=by
 have key:∀{N N':List Nd} (id:Int) (P:Qj→Qu→Prop),(Qg N' id).map (fun n=>(n.c,n.q))=(Qg N id).map (fun n=>(n.c,n.q))→(∃n,Qg N id=some n∧P n.c n.q)→∃n,Qg N' id=some n∧P n.c n.q:=fun {N N'} id P e ⟨n,h1,h2⟩=>by
  rw[h1]at e
  obtain⟨m,h3,h4⟩:=Option.map_eq_some_iff.1 e
  have h5:m.c=n.c:=congrArg Prod.fst h4
  have h6:m.q=n.q:=congrArg Prod.snd h4
  exact⟨m,h3,by rw[h5,h6];exact h2⟩
 refine⟨fun x hx=>?_,fun id x hx=>?_,fun id=>?_⟩
 ·exact key x.ki (fun c q=>c.leaf=true∧q.l≠[]) (hN _) (G.lv x (by rw[← hL];exact hx))
 ·unfold ZG
  rw[hT,hA]
  exact G.kt id x (by rw[← hK];exact hx)
 ·rw[hA,G.act id]
  exact⟨fun h=>key id (fun c q=>c.leaf=true∧q.l≠[]∧1<QI c.ls) (hN _) h,fun h=>key id (fun c q=>c.leaf=true∧q.l≠[]∧1<QI c.ls) (hN _).symm h⟩
theorem Good.hold {M M':Qh} (G:Good M) (hL:M'.Lv=M.Lv) (hK:M'.KT=M.KT) (hT:M'.T=M.T) (hA:M'.A=M.A) (hN:∀id,(Qg M'.N id).map (fun n=>(n.c,n.q.l.isEmpty))=(Qg M.N id).map (fun n=>(n.c,n.q.l.isEmpty))):Good M':=by
 have ne:∀l:List Pk,l≠[]↔l.isEmpty=false:=fun l=>by cases l<;>simp
 have key:∀{N N':List Nd} (id:Int) (P:Qj→Bool→Prop),(Qg N' id).map (fun n=>(n.c,n.q.l.isEmpty))=(Qg N id).map (fun n=>(n.c,n.q.l.isEmpty))→(∃n,Qg N id=some n∧P n.c n.q.l.isEmpty)→∃n,Qg N' id=some n∧P n.c n.q.l.isEmpty:=fun {N N'} id P e ⟨n,h1,h2⟩=>by
  rw[h1]at e
  obtain⟨m,h3,h4⟩:=Option.map_eq_some_iff.1 e
  have h5:m.c=n.c:=congrArg Prod.fst h4
  have h6:m.q.l.isEmpty=n.q.l.isEmpty:=congrArg Prod.snd h4
  exact⟨m,h3,by rw[h5,h6];exact h2⟩
 refine⟨fun x hx=>?_,fun id x hx=>?_,fun id=>?_⟩
 ·obtain⟨n,h1,h2,h3⟩:=G.lv x (by rw[← hL];exact hx)
  obtain⟨m,h4,h5,h6⟩:=key x.ki (fun c b=>c.leaf=true∧b=false) (hN _) ⟨n,h1,h2,(ne _).1 h3⟩
  exact⟨m,h4,h5,(ne _).2 h6⟩
 ·unfold ZG
  rw[hT,hA]
  exact G.kt id x (by rw[← hK];exact hx)
 ·rw[hA,G.act id]
  constructor
  ·rintro⟨n,h1,h2,h3,h4⟩
   obtain⟨m,k1,k2,k3,k4⟩:=key id (fun c b=>c.leaf=true∧b=false∧1<QI c.ls) (hN _) ⟨n,h1,h2,(ne _).1 h3,h4⟩
   exact⟨m,k1,k2,(ne _).2 k3,k4⟩
  ·rintro⟨n,h1,h2,h3,h4⟩
   obtain⟨m,k1,k2,k3,k4⟩:=key id (fun c b=>c.leaf=true∧b=false∧1<QI c.ls) (hN _).symm ⟨n,h1,h2,(ne _).1 h3,h4⟩
   exact⟨m,k1,k2,(ne _).2 k3,k4⟩
theorem Good.push {M:Qh} (G:Good M) (id:Int) (x:Pk) (h:Xb (Qx M id).c.Q9 (Qx M id).c.bytes (Qx M id).q x=true∨(Qx M id).q.l≠[]):Good (JA M id x):=by
 refine G.hold rfl rfl rfl rfl fun j=>?_
 unfold JA
 dsimp only
 rw[Wu (f:=fun m:Nd=>{ m with q:=Kh (Qx M id).c.Q9 (Qx M id).c.bytes (Qx M id).q x }) (fun _=>rfl)]
 by_cases e:j=id
 ·subst e
  rw[if_pos rfl]
  cases hn:Qg M.N j with
  | none=>rfl
  | some n=>
   have Zy:Qx M j=n:=by unfold Qx;rw[hn];rfl
   rw[Zy]at h ⊢
   simp only[Option.map_some,Option.some.injEq,Prod.mk.injEq,true_and]
   unfold Kh
   rcases h with h|h
   ·rw[if_pos h]
   ·split
    ·rfl
    ·cases hq:n.q.l with
     | nil=>exact absurd hq h
     | cons y l=>simp [hq]
 ·rw[if_neg e]
theorem Good.Qat (now:Nat):∀(l:List Int) {M:Qh},Good M→Good (l.foldl (K5 now) M)
 | [],M,G=>G
 | j::l,M,G=>by
  refine Good.Qat now l (G.QqB rfl rfl rfl rfl fun id=>?_)
  unfold K5
  dsimp only
  rw[Wu (f:=jJ M now) (fun n=>by unfold jJ;rfl)]
  split
  ·cases Qg M.N id with
   | none=>rfl
   | some n=>unfold jJ;rfl
  ·rfl
theorem Good.QqC {M M1:Qh} (G:Good M) {id:Int} {n1:Nd} (Jc:Qg M1.N id=some n1) (hl:n1.c.leaf=true) (hq:n1.q.l≠[]) (X9:∀j,j≠id→Qg M1.N j=Qg M.N j)
  (hL:M1.Lv=M.Lv) (hK:M1.KT=M.KT) (hT:M1.T=M.T) (hA:M1.A=M.A) (Z9:id ∉ M.A) (now:Nat) (head:Int) :
  Good { Jl M1 now id head with A:=if 1<QI n1.c.ls then id::M.A else M.A }:=by
 have Zy:Qx M1 id=n1:=by unfold Qx;rw[Jc];rfl
 have QQ:=Qy.id Jc
 have hN:∀j,(Qg (Jl M1 now id head).N j).map (fun n=>(n.c,n.q))=(Qg M1.N j).map (fun n=>(n.c,n.q)):=fun j=>by
  unfold Jl
  split
  ·dsimp only
   rw[Wu (f:=fun n:Nd=>{ n with du:=Xx (Qx M1 id).du (Jq (Qx M1 id).c.rt) now head }) (fun _=>rfl)]
   split
   ·cases Qg M1.N j<;>rfl
   ·rfl
  ·rfl
 have get:∀j n,Qg M1.N j=some n→∃m,Qg (Jl M1 now id head).N j=some m∧m.c=n.c∧m.q=n.q:=fun j n hn=>by
  have:=hN j
  rw[hn]at this
  obtain⟨m,h1,h2⟩:=Option.map_eq_some_iff.1 this
  exact⟨m,h1,congrArg Prod.fst h2,congrArg Prod.snd h2⟩
 have tg:∀j m,Qg (Jl M1 now id head).N j=some m→∃n,Qg M1.N j=some n∧m.c=n.c∧m.q=n.q:=fun j m hm=>by
  have:=hN j
  rw[hm]at this
  obtain⟨n,h1,h2⟩:=Option.map_eq_some_iff.1 this.symm
  exact⟨n,h1,(congrArg Prod.fst h2).symm,(congrArg Prod.snd h2).symm⟩
 have AS:(Jl M1 now id head).KT=M.KT:=by unfold Jl;split<;>exact hK
 have PZ:(Jl M1 now id head).T=M.T:=by unfold Jl;split<;>exact hT
 have one:∃n,Qg (Jl M1 now id head).N id=some n∧n.c.leaf=true∧n.q.l≠[]:=by
  obtain⟨m,h1,h2,h3⟩:=get id n1 Jc
  exact⟨m,h1,by rw[h2];exact hl,by rw[h3];exact hq⟩
 refine⟨fun x hx=>?_,fun j x hx=>?_,fun j=>?_⟩
 ·show ∃n,Qg (Jl M1 now id head).N x.ki=some n∧n.c.leaf=true∧n.q.l≠[]
  have KS:x.ki=id∨x∈M.Lv:=by
   have x5:x∈(Jl M1 now id head).Lv:=hx
   unfold Jl at x5
   split at x5
   ·rcases HQ x5 with e|e
    ·exact .inl e
    ·exact .inr (by rw[← hL];exact e)
   ·exact .inr (by rw[← hL];exact x5)
  by_cases e:x.ki=id
  ·rw[e];exact one
  ·obtain⟨n,h1,h2,h3⟩:=G.lv x (KS.resolve_left e)
   rw[← X9 _ e]at h1
   obtain⟨m,k1,k2,k3⟩:=get _ n h1
   exact⟨m,k1,by rw[k2];exact h2,by rw[k3];exact h3⟩
 ·have KS:x∈M.KT j:=by rw[← AS];exact hx
  have h1:=G.kt j x KS
  show Zu (Jl M1 now id head).T _ x.ki=true
  rw[PZ]
  obtain⟨a,ha,hu⟩:=V6.1 h1
  exact V6.2 ⟨a,by dsimp only;split<;>simp [ha],hu⟩
 ·show j∈(if 1<QI n1.c.ls then id::M.A else M.A)↔∃n,Qg (Jl M1 now id head).N j=some n∧n.c.leaf=true∧n.q.l≠[]∧1<QI n.c.ls
  by_cases e:j=id
  ·subst e
   constructor
   ·intro hj
    by_cases hs:1<QI n1.c.ls
    ·obtain⟨m,h1,h2,h3⟩:=get j n1 Jc
     exact⟨m,h1,by rw[h2];exact hl,by rw[h3];exact hq,by rw[h2];exact hs⟩
    ·rw[if_neg hs]at hj
     exact absurd hj Z9
   ·rintro⟨m,h1,h2,h3,h4⟩
    obtain⟨n,k1,k2,k3⟩:=tg j m h1
    rw[Jc]at k1
    cases k1
    rw[k2]at h4
    rw[if_pos h4]
    exact List.mem_cons_self
  ·have e1:j∈(if 1<QI n1.c.ls then id::M.A else M.A)↔j∈M.A:=by split<;>simp [e]
   rw[e1,G.act j]
   constructor
   ·rintro⟨n,h1,h2,h3,h4⟩
    rw[← X9 _ e]at h1
    obtain⟨m,k1,k2,k3⟩:=get _ n h1
    exact⟨m,k1,by rw[k2];exact h2,by rw[k3];exact h3,by rw[k2];exact h4⟩
   ·rintro⟨m,h1,h2,h3,h4⟩
    obtain⟨n,k1,k2,k3⟩:=tg j m h1
    rw[X9 _ e]at k1
    exact⟨n,k1,by rw[← k2];exact h2,by rw[← k3];exact h3,by rw[← k2];exact h4⟩
theorem Good.acc {M:Qh} (G:Good M) (a:Nat):Good (WN M a):=⟨G.lv,G.kt,G.act⟩
theorem Good.put {M:Qh} (I:Qy M) (G:Good M) (now:Nat) (cls:Int) (x:Pk):Good (Kj M now cls x):=by
 unfold Kj
 cases hn:Qg M.N cls with
 | none=>
  have e:JO M cls x=23:=by unfold JO;rw[hn]
  rw[e,if_neg (by decide),if_neg (by decide)]
  exact G
 | some n=>
  have Zy:Qx M cls=n:=by unfold Qx;rw[hn];rfl
  have he:JO M cls x=if n.c.leaf=false then 29 else if x.len<1∨M.lk.K9<x.len then 26 else if 1099511627776<M.acc+x.len.toNat then 28
   else if Xb n.c.Q9 n.c.bytes n.q x=true then 30 else 0:=by unfold JO;rw[hn]
  by_cases Vp:JO M cls x=30
  ·rw[if_pos Vp]
   refine G.push cls x (.inl ?_)
   rw[Zy]
   rw[he]at Vp
   split at Vp
   ·cases Vp
   ·split at Vp
    ·cases Vp
    ·split at Vp
     ·cases Vp
     ·split at Vp
      ·assumption
      ·cases Vp
  ·rw[if_neg Vp]
   by_cases h0:JO M cls x=0
   ·rw[if_pos h0]
    have hf:n.c.leaf=true∧Xb n.c.Q9 n.c.bytes n.q x=false:=by
     rw[he]at h0
     split at h0
     ·cases h0
     ·rename_i h1
      split at h0
      ·cases h0
      ·split at h0
       ·cases h0
       ·split at h0
        ·cases h0
        ·rename_i h4
         exact⟨by simpa using h1,by simpa using h4⟩
    rw[Zy]
    by_cases hq:n.q.l=[]
    ·rw[if_pos hq]
     have hfN:∀j,Qg (WN (JA M cls x) (M.acc+x.len.toNat)).N j=if j=cls then (Qg M.N j).map (fun m=>{ m with q:=Kh n.c.Q9 n.c.bytes n.q x }) else Qg M.N j:=fun j=>by
      show Qg (JA M cls x).N j=_
      unfold JA
      dsimp only
      rw[Zy]
      exact Wu (f:=fun m:Nd=>{ m with q:=Kh n.c.Q9 n.c.bytes n.q x }) (fun _=>rfl) j
     have Jc:Qg (WN (JA M cls x) (M.acc+x.len.toNat)).N cls=some { n with q:=Kh n.c.Q9 n.c.bytes n.q x }:=by rw[hfN,if_pos rfl,hn];rfl
     have Ic:Qx (WN (JA M cls x) (M.acc+x.len.toNat)) cls={ n with q:=Kh n.c.Q9 n.c.bytes n.q x }:=by unfold Qx;rw[Jc];rfl
     have GA:=G.QqC Jc hf.1 (by unfold Kh;rw[if_neg (by rw[hf.2];exact Bool.false_ne_true)];simp) (fun j hj=>by rw[hfN,if_neg hj]) rfl rfl rfl rfl (G.hA I cls n hn hf.1 hq) now x.len
     unfold qf
     rw[Ic]
     dsimp only at GA ⊢
     by_cases hs:1<QI n.c.ls
     ·rw[if_pos hs]at GA ⊢
      exact Good.JT _ (Good.Qat now _ GA)
     ·rw[if_neg hs]at GA ⊢
      have e:({ Jl (WN (JA M cls x) (M.acc+x.len.toNat)) now cls x.len with A:=M.A }:Qh)=Jl (WN (JA M cls x) (M.acc+x.len.toNat)) now cls x.len:=by
       unfold Jl;split<;>rfl
      rw[← e]
      exact GA
    ·rw[if_neg hq]
     exact(G.push cls x (.inr (by rw[Zy];exact hq))).acc _
   ·rw[if_neg h0]
    exact G
theorem Good.VS {M:Qh} (I:Qy M) (G:Good M) (now:Nat) (cls:Int) (x:Pk):Good (VS M now cls x):=by
 unfold X.VS
 split
 ·exact Good.put (yr I now) (Good.told G now) now cls x
 ·exact G
def WQ (M:Qh) (p:Int) (x:It):Prop:=∃n,Qg M.N x.ki=some n∧n.c.parent=p∧ZG M x.ki=true∧x=⟨n.sh.time,x.ki,KD M x.ki n,x.ki⟩
def vA (M:Qh) (x:It):Prop:=∃n,Qg M.N x.ki=some n∧n.c.leaf=true∧n.q.l≠[]∧1<QI n.c.rt∧x=⟨n.du.VM,x.ki,n.du.dead,x.ki⟩
def wQ (M:Qh):Prop:=∀x,x∈M.Lv↔vA M x
def Fi (M:Qh):Prop:=∀p x,x∈M.KT p↔WQ M p x
def AU (M:Qh):Prop:=∀id,id∈M.A↔∃n,Qg M.N id=some n∧n.c.leaf=true∧n.q.l≠[]∧1<QI n.c.ls
def wR (M:Qh):Prop:=∀id n,Qg M.N id=some n→n.c.leaf=false→n.q=⟨[],0,0,0,0,0,0⟩
def WR (M:Qh):Prop:=∀id n,Qg M.N id=some n→n.Ok
def yx (M:Qh):Prop:=JG M.Lv∧∀p,JG (M.KT p)
structure Inv (M:Qh):Prop where
 lv:wQ M
 kt:Fi M
 act:AU M
 jT:wR M
 WS:yx M
 ok:WR M
theorem Inv.Fj {M:Qh} (V:Inv M):Good M:=
 ⟨fun x hx=>by
  obtain⟨n,h1,h2,h3,_⟩:=(V.lv x).1 hx
  exact⟨n,h1,h2,h3⟩,fun p x hx=>by
  obtain⟨n,_,_,h,_⟩:=(V.kt p x).1 hx
  exact h,V.act⟩
theorem QqD (c:Cf):Inv (M0 c):=by
 refine⟨fun x=>?_,fun p x=>?_,fun id=>by simp [M0,Qg],fun id n h=>by simp [M0,Qg]at h,⟨by simp [M0,JG],fun p=>by simp [M0,JG]⟩,fun id n h=>by simp [M0,Qg]at h⟩
 ·simp [M0,vA,Qg]
 ·simp [M0,WQ,Qg]
theorem QqE {a:Nat} {i:Int} {L:List It} (h:∀x∈L,x.ki≠i):V7 a i L=none:=by
 unfold V7
 rw[List.find?_eq_none]
 intro x hx hk
 exact h x hx (qK.1 hk).2
theorem ar {id:Int} {L:List It} (h:JG L):JG (JH id L):=List.Pairwise.filter _ h
theorem Iw {id:Int} {L:List It} {x:It}:x∈JH id L↔x∈L∧x.ki≠id:=by simp [JH]
theorem OM {id:Int} {a b:Nat} {L:List It} (h:JG L):JG (VL id a b L):=
 Sr (ar h) (QqE fun x hx=>(Iw.1 hx).2)
theorem AV {id:Int} {a b:Nat} {L:List It} {x:It}:x∈VL id a b L↔x=⟨a,id,b,id⟩∨(x∈L∧x.ki≠id):=by
 unfold VL
 rw[As,Iw]
structure Part (M:Qh) (U:List Int):Prop where
 lv:wQ M
 kt:∀p x,x.ki ∉ U→(x∈M.KT p↔WQ M p x)
 ka:∀p x,x∈M.KT p→x.ki∈U→ZG M x.ki=true
 act:AU M
 jT:wR M
 WS:yx M
 ok:WR M
theorem QqF {M:Qh} {id j:Int} {m:Nd} (h:(Qx M id).c.parent≠j):KD (Js M id) j m=KD M j m:=by
 have h2:ZG (Js M id) j=ZG M j:=by
  obtain⟨_,s2,_,s4,_⟩:=HP M id
  unfold ZG;rw[s2,s4]
 unfold KD
 rw[h2]
 have h3:(Js M id).KT j=M.KT j:=by
  unfold Js
  split
  ·dsimp only
   rw[if_neg (fun e=>h e.symm)]
  ·rfl
 rw[h3]
theorem Part.step {M:Qh} (I:Qy M) {id:Int} {n:Nd} (hn:Qg M.N id=some n) (V:Part M (id::up M.T n.c.parent)):Part (Js M id) (up M.T n.c.parent):=by
 obtain⟨s1,s2,s3,s4,s5,s6,s7,s8,s9⟩:=HP M id
 have Zy:Qx M id=n:=by unfold Qx;rw[hn];rfl
 have hA:∀j,ZG (Js M id) j=ZG M j:=fun j=>by unfold ZG;rw[s2,s4]
 have KB:=I.some hn
 have Z9:id ∉ up M.T n.c.parent:=by
  have:=GR I.tree id
  rw[JS I.tree KB,List.nodup_cons]at this
  exact this.1
 have Dg:∀j m,Qg M.N j=some m→j ∉ up M.T n.c.parent→KD (Js M id) j m=KD M j m:=fun j m hm hj=>QqF fun e=>by
  rw[Zy]at e
  refine hj ?_
  rw[e]
  exact VH I.tree (I.some hm)
 have au:∀p x,x.ki ∉ up M.T n.c.parent→(WQ (Js M id) p x↔WQ M p x):=fun p x hx=>by
  unfold WQ
  rw[s1]
  constructor
  ·rintro⟨m,h1,h2,h3,h4⟩
   exact⟨m,h1,h2,by rw[← hA];exact h3,by rw[← Dg _ m h1 hx];exact h4⟩
  ·rintro⟨m,h1,h2,h3,h4⟩
   exact⟨m,h1,h2,by rw[hA];exact h3,by rw[Dg _ m h1 hx];exact h4⟩
 have aw:∀p x,x∈M.KT p→x.ki=id→n.c.parent=p:=fun p x hx e=>by
  obtain⟨c,h1,h2⟩:=I.Yy p x hx
  rw[e,KB]at h1
  cases h1
  exact h2
 refine⟨?_,fun p x hx=>?_,fun p x hx yy=>?_,?_,?_,?_,by unfold WR;rw[s1];exact V.ok⟩
 ·intro x
  unfold vA
  rw[s1,s5]
  exact V.lv x
 ·rw[au p x hx]
  by_cases e:x.ki=id
  ·cases ha:ZG M id with
   | true=>
    have hK:(Js M id).KT=fun j=>if j=n.c.parent then VL id n.sh.time (KD M id n) (M.KT n.c.parent) else M.KT j:=by
     unfold Js
     rw[if_pos ha,Zy]
    rw[hK]
    dsimp only
    split
    ·rename_i hp
     subst hp
     rw[AV]
     unfold WQ
     rw[e,hn]
     constructor
     ·rintro (h|h)
      ·exact⟨n,rfl,rfl,ha,h⟩
      ·exact absurd rfl h.2
     ·rintro⟨m,h1,_,_,h4⟩
      cases h1
      exact .inl h4
    ·rename_i hp
     constructor
     ·intro h
      exact absurd (aw p x h e).symm hp
     ·rintro⟨m,h1,h2,_⟩
      rw[e,hn]at h1
      cases h1
      exact absurd h2.symm hp
   | false=>
    have hK:Js M id=M:=by unfold Js;rw[if_neg (by rw[ha];exact Bool.false_ne_true)]
    rw[hK]
    constructor
    ·intro h
     have:=V.ka p x h (by rw[e];exact List.mem_cons_self)
     rw[e,ha]at this
     cases this
    ·rintro⟨m,_,_,h3,_⟩
     rw[e,ha]at h3
     cases h3
  ·have yy:x.ki ∉ id::up M.T n.c.parent:=fun h=>(List.mem_cons.1 h).elim e hx
   rw[← V.kt p x yy]
   unfold Js
   split
   ·dsimp only
    split
    ·rename_i hp
     rw[AV,hp]
     constructor
     ·rintro (h|h)
      ·exact absurd (congrArg It.ki h) e
      ·exact h.1
     ·intro h
      exact .inr ⟨h,e⟩
    ·exact Iff.rfl
   ·exact Iff.rfl
 ·rw[hA]
  have QD:x.ki≠id:=fun e=>Z9 (e▸yy)
  refine V.ka p x ?_ (List.mem_cons_of_mem _ yy)
  unfold Js at hx
  split at hx
  ·dsimp only at hx
   split at hx
   ·rename_i hp
    rcases AV.1 hx with h|h
    ·exact absurd (congrArg It.ki h) QD
    ·rw[hp];exact h.1
   ·exact hx
  ·exact hx
 ·intro j
  rw[s1,s4]
  exact V.act j
 ·unfold wR
  rw[s1]
  exact V.jT
 ·refine⟨by rw[s5];exact V.WS.1,fun p=>?_⟩
  unfold Js
  split
  ·dsimp only
   split
   ·exact OM (V.WS.2 _)
   ·exact V.WS.2 p
  ·exact V.WS.2 p
theorem Part.settle:∀(k:Nat) {M:Qh} (id:Int),Qy M→(up M.T id).length=k→Part M (up M.T id)→Inv (JT M (up M.T id)):=by
 intro k
 induction k with
 | zero=>
  intro M id I hk V
  have e:=List.length_eq_zero_iff.1 hk
  rw[e]at V ⊢
  exact⟨V.lv,fun p x=>V.kt p x (by simp),V.act,V.jT,V.WS,V.ok⟩
 | succ k ih=>
  intro M id I hk V
  cases hf:Qr M.T id with
  | none=>rw[GP I.tree hf]at hk;cases hk
  | some c=>
   obtain⟨n,hn,rfl⟩:=I.HN hf
   have e:=JS I.tree hf
   rw[e]at hk V ⊢
   obtain⟨s1,s2,_⟩:=HP M id
   have V2:=V.step I hn
   have I2:=tY I hn (V.ok _ _ hn)
   show Inv (JT (Js M id) (up M.T n.c.parent))
   rw[← s2]at V2 ⊢
   exact ih n.c.parent I2 (by rw[s2];simpa using hk) V2
theorem wS {α:Type} {key:Nd→α} {N N':List Nd} {id:Int} (e:(Qg N' id).map key=(Qg N id).map key) {n:Nd} (h:Qg N id=some n):∃m,Qg N' id=some m∧key m=key n:=by
 rw[h]at e
 exact Option.map_eq_some_iff.1 e
def zT (n:Nd):Qj × Nat × Nat:=(n.c,n.sh.time,n.cp.fit)
def AW (n:Nd):Qj × Bool × Nat × Nat:=(n.c,n.q.l.isEmpty,n.du.VM,n.du.dead)
def zU (n:Nd):Qj × Bool:=(n.c,n.q.l.isEmpty)
theorem Fk {l:List Pk}:l≠[]↔l.isEmpty=false:=by cases l<;>simp
theorem vA.to {M M':Qh} {x:It} (h:(Qg M'.N x.ki).map AW=(Qg M.N x.ki).map AW):vA M x→vA M' x:=fun⟨n,h1,h2,h3,h4,h5⟩=>by
 obtain⟨m,k1,k2⟩:=wS h h1
 simp only[AW,Prod.mk.injEq]at k2
 obtain⟨e1,e2,e3,e4⟩:=k2
 exact⟨m,k1,by rw[e1];exact h2,Fk.2 (by rw[e2];exact Fk.1 h3),by rw[e1];exact h4,by rw[e3,e4];exact h5⟩
theorem wQ.of {M M':Qh} (V:wQ M) (hL:M'.Lv=M.Lv) (hN:∀id,(Qg M'.N id).map AW=(Qg M.N id).map AW):wQ M':=fun x=>by
 rw[hL,V x]
 exact⟨vA.to (hN _),vA.to (hN _).symm⟩
theorem wQ.at_ {M M':Qh} (V:wQ M) {id:Int} {m:Nd} (hm:Qg M'.N id=some m) (hN:∀j,j≠id→(Qg M'.N j).map AW=(Qg M.N j).map AW)
  (hL:∀y:It,y.ki≠id→(y∈M'.Lv↔y∈M.Lv)) (hI:∀y:It,y.ki=id→(y∈M'.Lv↔(m.c.leaf=true∧m.q.l≠[]∧1<QI m.c.rt∧y=⟨m.du.VM,id,m.du.dead,id⟩))):wQ M':=fun x=>by
 by_cases e:x.ki=id
 ·rw[hI x e]
  unfold vA
  rw[e,hm]
  constructor
  ·rintro⟨h1,h2,h3,h4⟩
   exact⟨m,rfl,h1,h2,h3,h4⟩
  ·rintro⟨m2,h0,h1,h2,h3,h4⟩
   cases h0
   exact⟨h1,h2,h3,h4⟩
 ·rw[hL x e,V x]
  exact⟨vA.to (hN _ e),vA.to (hN _ e).symm⟩
theorem AU.at_ {M M':Qh} (V:AU M) {id:Int} {m:Nd} (hm:Qg M'.N id=some m) (hN:∀j,j≠id→(Qg M'.N j).map zU=(Qg M.N j).map zU)
  (hA:∀j,j≠id→(j∈M'.A↔j∈M.A)) (hI:id∈M'.A↔(m.c.leaf=true∧m.q.l≠[]∧1<QI m.c.ls)):AU M':=fun j=>by
 by_cases e:j=id
 ·subst e
  rw[hI,hm]
  constructor
  ·rintro⟨h1,h2,h3⟩
   exact⟨m,rfl,h1,h2,h3⟩
  ·rintro⟨m2,h0,h1,h2,h3⟩
   cases h0
   exact⟨h1,h2,h3⟩
 ·rw[hA j e,V j]
  have go:∀{N N':List Nd},(Qg N' j).map zU=(Qg N j).map zU→(∃n,Qg N j=some n∧n.c.leaf=true∧n.q.l≠[]∧1<QI n.c.ls)→∃n,Qg N' j=some n∧n.c.leaf=true∧n.q.l≠[]∧1<QI n.c.ls:=fun {N N'} h ⟨n,h1,h2,h3,h4⟩=>by
   obtain⟨m2,k1,k2⟩:=wS h h1
   simp only[zU,Prod.mk.injEq]at k2
   obtain⟨e1,e2⟩:=k2
   exact⟨m2,k1,by rw[e1];exact h2,Fk.2 (by rw[e2];exact Fk.1 h3),by rw[e1];exact h4⟩
  exact⟨go (hN _ e),go (hN _ e).symm⟩
theorem AU.of {M M':Qh} (V:AU M) (hA:M'.A=M.A) (hN:∀id,(Qg M'.N id).map zU=(Qg M.N id).map zU):AU M':=fun j=>by
 rw[hA,V j]
 have go:∀{N N':List Nd},(Qg N' j).map zU=(Qg N j).map zU→(∃n,Qg N j=some n∧n.c.leaf=true∧n.q.l≠[]∧1<QI n.c.ls)→∃n,Qg N' j=some n∧n.c.leaf=true∧n.q.l≠[]∧1<QI n.c.ls:=fun {N N'} h ⟨n,h1,h2,h3,h4⟩=>by
  obtain⟨m2,k1,k2⟩:=wS h h1
  simp only[zU,Prod.mk.injEq]at k2
  obtain⟨e1,e2⟩:=k2
  exact⟨m2,k1,by rw[e1];exact h2,Fk.2 (by rw[e2];exact Fk.1 h3),by rw[e1];exact h4⟩
 exact⟨go (hN _),go (hN _).symm⟩
theorem ay {M M':Qh} {j:Int} {n m:Nd} (e:zT m=zT n) (ha:ZG M' j=ZG M j) (hK:M'.KT j=M.KT j):KD M' j m=KD M j n:=by
 simp only[zT,Prod.mk.injEq]at e
 unfold KD
 rw[ha,hK,e.1,e.2.2]
theorem WQ.to {M M':Qh} {p:Int} {x:It} (h:(Qg M'.N x.ki).map zT=(Qg M.N x.ki).map zT) (ha:ZG M' x.ki=ZG M x.ki) (hK:M'.KT x.ki=M.KT x.ki):WQ M p x→WQ M' p x:=fun⟨n,h1,h2,h3,h4⟩=>by
 obtain⟨m,k1,k2⟩:=wS h h1
 have e:=ay k2 ha hK
 simp only[zT,Prod.mk.injEq]at k2
 obtain⟨e1,e2,e3⟩:=k2
 exact⟨m,k1,by rw[e1];exact h2,by rw[ha];exact h3,by rw[e,e2];exact h4⟩
theorem Fi.part {M M':Qh} (V:Fi M) {U:List Int} (hK:M'.KT=M.KT) (Yo:∀j,j ∉ U→ZG M' j=ZG M j) (hN:∀j,j ∉ U→(Qg M'.N j).map zT=(Qg M.N j).map zT) :
  ∀p x,x.ki ∉ U→(x∈M'.KT p↔WQ M' p x):=fun p x hx=>by
 rw[hK,V p x]
 exact⟨WQ.to (hN _ hx) (Yo _ hx) (by rw[hK]),WQ.to (hN _ hx).symm (Yo _ hx).symm (by rw[hK])⟩
theorem Fi.of {M M':Qh} (V:Fi M) (hK:M'.KT=M.KT) (Yo:∀j,ZG M' j=ZG M j) (hN:∀j,(Qg M'.N j).map zT=(Qg M.N j).map zT):Fi M':=fun p x=>by
 rw[hK,V p x]
 exact⟨WQ.to (hN _) (Yo _) (by rw[hK]),WQ.to (hN _).symm (Yo _).symm (by rw[hK])⟩
def az (n:Nd):Qj × Bool × Du × Sh × Cp:=(n.c,n.q.l.isEmpty,n.du,n.sh,n.cp)
theorem AY {α β:Type} {key:Nd→α} (f:α→β) {N N':List Nd} {id:Int} (e:(Qg N' id).map key=(Qg N id).map key):(Qg N' id).map (fun n=>f (key n))=(Qg N id).map fun n=>f (key n):=by
 have:=congrArg (Option.map f) e
 rwa [Option.map_map,Option.map_map]at this
theorem Inv.num {M M':Qh} (V:Inv M) (hL:M'.Lv=M.Lv) (hK:M'.KT=M.KT) (hT:M'.T=M.T) (hA:M'.A=M.A) (hN:∀id,(Qg M'.N id).map az=(Qg M.N id).map az) (hq:wR M') (ho:WR M'):Inv M':=
 ⟨V.lv.of hL fun id=>AY (fun k=>(k.1,k.2.1,k.2.2.1.VM,k.2.2.1.dead)) (hN id),V.kt.of hK (fun j=>by unfold ZG;rw[hT,hA]) fun id=>AY (fun k=>(k.1,k.2.2.2.1.time,k.2.2.2.2.fit)) (hN id),V.act.of hA fun id=>AY (fun k=>(k.1,k.2.1)) (hN id),hq,⟨by rw[hL];exact V.WS.1,fun p=>by rw[hK];exact V.WS.2 p⟩,ho⟩
theorem Inv.told {M:Qh} (V:Inv M) (now:Nat):Inv (Zn M now):=by
 unfold Zn
 split
 ·exact⟨V.lv,V.kt,V.act,V.jT,V.WS,V.ok⟩
 ·exact V
theorem Inv.acc {M:Qh} (V:Inv M) (a:Nat):Inv (WN M a):=⟨V.lv,V.kt,V.act,V.jT,V.WS,V.ok⟩
theorem zV {α:Type} {key:Nd→α} {step:Qh→Int→Qh} (hs:∀M j id,(Qg (step M j).N id).map key=(Qg M.N id).map key):∀(l:List Int) (M:Qh) (id:Int),(Qg (l.foldl step M).N id).map key=(Qg M.N id).map key
 | [],M,id=>rfl
 | j::l,M,id=>(zV hs l (step M j) id).trans (hs M j id)
theorem ON {step:Qh→Int→Qh} (hs:∀M j id,id≠j→Qg (step M j).N id=Qg M.N id):∀(l:List Int) (M:Qh) (id:Int),id ∉ l→Qg (l.foldl step M).N id=Qg M.N id
 | [],M,id,_=>rfl
 | j::l,M,id,h=>by
  rw[List.mem_cons,not_or]at h
  exact(ON hs l (step M j) id h.2).trans (hs M j id h.1)
theorem aA {α:Type} {key:Nd→α} {N:List Nd} {j:Int} {f:Nd→Nd} (hc:∀n,(f n).c=n.c) (hk:∀n,key (f n)=key n) (id:Int):(Qg (J1 N j f) id).map key=(Qg N id).map key:=by
 rw[Wu (fun n=>by rw[hc])]
 split
 ·rw[Option.map_map]
  congr 1
  funext n
  exact hk n
 ·rfl
theorem aB {N:List Nd} {j:Int} {f:Nd→Nd} (hc:∀n,(f n).c=n.c) (id:Int) (h:id≠j):Qg (J1 N j f) id=Qg N id:=by
 rw[Wu (fun n=>by rw[hc]),if_neg h]
theorem Ix {N:List Nd} {j:Int} {f:Nd→Nd} (hc:∀n,(f n).c=n.c) (hf:∀n,Qg N j=some n→n.Ok→(f n).Ok) (h:∀id n,Qg N id=some n→n.Ok):∀id n,Qg (J1 N j f) id=some n→n.Ok:=fun id n hn=>by
 rw[Wu (fun n=>by rw[hc])]at hn
 split at hn
 ·rename_i e
  subst e
  obtain⟨m,h1,rfl⟩:=Option.map_eq_some_iff.1 hn
  exact hf m h1 (h _ _ h1)
 ·exact h _ _ hn
theorem Qav {M M':Qh} (V:wR M) (hN:∀id,(Qg M'.N id).map (fun n=>(n.c,n.q))=(Qg M.N id).map fun n=>(n.c,n.q)):wR M':=fun id n hn hl=>by
 obtain⟨m,h1,h2⟩:=wS (hN id).symm hn
 have e1:m.c=n.c:=congrArg Prod.fst h2
 have e2:m.q=n.q:=congrArg Prod.snd h2
 rw[← e2]
 exact V id m h1 (by rw[e1];exact hl)
theorem CJ (M:Qh) (id:Int) (x:Pk) (j:Int):Qg (JA M id x).N j=if j=id then (Qg M.N j).map (fun m=>{ m with q:=Kh (Qx M id).c.Q9 (Qx M id).c.bytes (Qx M id).q x }) else Qg M.N j:=
 Wu (f:=fun m:Nd=>{ m with q:=Kh (Qx M id).c.Q9 (Qx M id).c.bytes (Qx M id).q x }) (fun _=>rfl) j
theorem Qaw {p b:Int} {q:Qu} {x:Pk} (h:Xb p b q x=false):(Kh p b q x).l=q.l++[x]:=by
 unfold Kh
 rw[if_neg (by rw[h];exact Bool.false_ne_true)]
theorem Qax {M:Qh} (V:WR M) (id:Int) (x:Pk):WR (JA M id x):=
 Ix (f:=fun m:Nd=>{ m with q:=Kh (Qx M id).c.Q9 (Qx M id).c.bytes (Qx M id).q x }) (fun _=>rfl) (fun n _ h=>⟨h.ZM,h.du,h.sh,h.cp,h.c⟩) V
theorem QqG {M:Qh} (V:wR M) {id:Int} {n:Nd} (hn:Qg M.N id=some n) (hl:n.c.leaf=true) (x:Pk):wR (JA M id x):=fun j m hm j8=>by
 rw[CJ]at hm
 split at hm
 ·rename_i e
  subst e
  rw[hn]at hm
  cases hm
  rw[hl]at j8
  cases j8
 ·exact V j m hm j8
theorem Inv.push {M:Qh} (V:Inv M) {id:Int} {n:Nd} (hn:Qg M.N id=some n) (hl:n.c.leaf=true) (x:Pk) (h:Xb n.c.Q9 n.c.bytes n.q x=true∨n.q.l≠[]):Inv (JA M id x):=by
 refine V.num rfl rfl rfl rfl (fun j=>?_) (QqG V.jT hn hl x) (Qax V.ok id x)
 have Zy:Qx M id=n:=by unfold Qx;rw[hn];rfl
 rw[CJ,Zy]
 split
 ·rename_i e
  subst e
  rw[hn]
  have e:(Kh n.c.Q9 n.c.bytes n.q x).l.isEmpty=n.q.l.isEmpty:=by
   unfold Kh
   rcases h with h|h
   ·rw[if_pos h]
   ·split
    ·rfl
    ·cases hq:n.q.l with
     | nil=>exact absurd hq h
     | cons y l=>simp
  simp only[Option.map_some,az]
  rw[e]
 ·rfl
theorem Qay (M:Qh) (now:Nat) (id:Int) (head:Int) (j:Int):Qg (Jl M now id head).N j=if j=id∧1<QI (Qx M id).c.rt then (Qg M.N j).map (fun n=>{ n with du:=Xx (Qx M id).du (Jq (Qx M id).c.rt) now head }) else Qg M.N j:=by
 unfold Jl
 by_cases h:1<QI (Qx M id).c.rt
 ·rw[if_pos h]
  dsimp only
  rw[Wu (f:=fun n:Nd=>{ n with du:=Xx (Qx M id).du (Jq (Qx M id).c.rt) now head }) (fun _=>rfl)]
  simp [h]
 ·rw[if_neg h,if_neg (fun e=>h e.2)]
theorem Qaz (now:Nat) {α:Type} {key:Nd→α} (hk:∀M n,key (jJ M now n)=key n) (M:Qh) (j id:Int):(Qg (K5 now M j).N id).map key=(Qg M.N id).map key:=
 aA (f:=jJ M now) (fun _=>rfl) (hk M) id
theorem QaA (now:Nat):∀(l:List Int) (M:Qh),(l.foldl (K5 now) M).Lv=M.Lv
 | [],M=>rfl
 | j::l,M=>QaA now l (K5 now M j)
theorem Inv.QqH {M M1:Qh} (I1:Qy M1) (V:Inv M) {id:Int} {n n1:Nd} (hn:Qg M.N id=some n) (Jc:Qg M1.N id=some n1) (hl:n.c.leaf=true) (TF:n.q.l=[]) (hq:n1.q.l≠[]) (AZ:(n1.c,n1.du,n1.sh,n1.cp)=(n.c,n.du,n.sh,n.cp))
  (X9:∀j,j≠id→Qg M1.N j=Qg M.N j) (hL:M1.Lv=M.Lv) (hK:M1.KT=M.KT) (hT:M1.T=M.T) (hA:M1.A=M.A) (ho:WR M1) (now:Nat) (Vo:now<18446744073709551616) (head:Int):Inv (qf M1 now id head):=by
 simp only[Prod.mk.injEq]at AZ
 obtain⟨ec,ed,es,ep⟩:=AZ
 have Zy:Qx M1 id=n1:=by unfold Qx;rw[Jc];rfl
 have Zk:n1.c.leaf=true:=by rw[ec];exact hl
 have Z9:id ∉ M.A:=fun h=>by
  obtain⟨m,h1,_,h3,_⟩:=(V.act id).1 h
  rw[hn]at h1
  cases h1
  exact h3 TF
 have CK:∀y∈M.Lv,y.ki≠id:=fun y hy e=>by
  obtain⟨m,h1,_,h3,_⟩:=(V.lv y).1 hy
  rw[e,hn]at h1
  cases h1
  exact h3 TF
 obtain⟨M2,Xi⟩:∃M2,M2=Jl M1 now id head:=⟨_,rfl⟩
 have I2:Qy M2:=by rw[Xi];exact I1.Jl Jc now head
 obtain⟨w1,w2,w3,w4⟩:=Oh (M:=M1) (now:=now) (id:=id) (head:=head)
 rw[← Xi]at w1 w2 w3 w4
 have hF:∀j,Qg M2.N j=if j=id∧1<QI n1.c.rt then (Qg M1.N j).map (fun n=>{ n with du:=Xx n1.du (Jq n1.c.rt) now head }) else Qg M1.N j:=fun j=>by
  rw[Xi,Qay,Zy]
 have Bg:∀j,j≠id→Qg M2.N j=Qg M.N j:=fun j hj=>by rw[hF,if_neg (fun e=>hj e.1),X9 j hj]
 have aC:M2.Lv=if 1<QI n1.c.rt then VL id (Xx n1.du (Jq n1.c.rt) now head).VM (Xx n1.du (Jq n1.c.rt) now head).dead M.Lv else M.Lv:=by
  rw[Xi]
  unfold Jl
  rw[Zy]
  split
  ·dsimp only
   rw[hL]
  ·exact hL
 obtain⟨m,hm,zJ,CL,hms,hmp,NY⟩:∃m,Qg M2.N id=some m∧m.c=n.c∧m.q=n1.q∧m.sh=n.sh∧m.cp=n.cp∧(1<QI n1.c.rt→m.du=Xx n1.du (Jq n1.c.rt) now head):=by
  rw[hF,Jc]
  by_cases h:1<QI n1.c.rt
  ·rw[if_pos ⟨rfl,h⟩]
   exact⟨_,rfl,ec,rfl,es,ep,fun _=>rfl⟩
  ·rw[if_neg (fun e=>h e.2)]
   exact⟨_,rfl,ec,rfl,es,ep,fun e=>absurd e h⟩
 have jS:wQ M2:=V.lv.at_ hm (fun j hj=>by rw[Bg j hj]) (fun y hy=>by
   rw[aC]
   split
   ·rw[AV]
    exact⟨fun h=>h.elim (fun e=>absurd (congrArg It.ki e) hy) (·.1),fun h=>.inr ⟨h,hy⟩⟩
   ·exact Iff.rfl) fun y hy=>by
   rw[aC,zJ,CL]
   by_cases h:1<QI n1.c.rt
   ·rw[if_pos h,AV,NY h]
    rw[← ec]
    exact⟨fun e=>e.elim (fun e=>⟨Zk,hq,h,e⟩) fun e=>absurd hy e.2,fun e=>.inl e.2.2.2⟩
   ·rw[if_neg h]
    rw[← ec]
    exact⟨fun e=>absurd hy (CK y e),fun e=>absurd e.2.2.1 h⟩
 have ZE:∀j,(Qg M2.N j).map zT=(Qg M.N j).map zT:=fun j=>by
  by_cases e:j=id
  ·subst e
   rw[hm,hn]
   simp only[Option.map_some,zT,zJ,hms,hmp]
  ·rw[Bg j e]
 have QaB:wR M2:=fun j k hj wP=>by
  by_cases e:j=id
  ·subst e
   rw[hm]at hj
   cases hj
   rw[zJ,hl]at wP
   cases wP
  ·rw[Bg j e]at hj
   exact V.jT j k hj wP
 have QaC:WR M2:=fun j k hj=>by
  rw[hF]at hj
  split at hj
  ·obtain⟨k0,h1,rfl⟩:=Option.map_eq_some_iff.1 hj
   have h2:=ho j k0 h1
   exact⟨h2.ZM,sy (ho id n1 Jc).du (ho id n1 Jc).c.2.2.2.1.lt Vo head,h2.sh,h2.cp,h2.c⟩
  ·exact ho j k hj
 have QaD:JG M2.Lv:=by
  rw[aC]
  split
  ·exact OM V.WS.1
  ·exact V.WS.1
 unfold qf
 rw[Zy,← Xi]
 by_cases hs:1<QI n1.c.ls
 ·rw[if_pos hs]
  obtain⟨M3,Xg⟩:∃M3,M3=(VI M1.T M1.A id).foldl (K5 now) { M2 with A:=id::M1.A }:=⟨_,rfl⟩
  rw[← Xg]
  obtain⟨t1,t2,t3,t4,t5,t6⟩:=EW now (VI M1.T M1.A id) { M2 with A:=id::M1.A }
  rw[← Xg]at t1 t2 t3 t4 t5 t6
  dsimp only at t1 t2 t3
  have tL:=QaA now (VI M1.T M1.A id) { M2 with A:=id::M1.A }
  rw[← Xg]at tL
  have KB:Qr M1.T id=some n1.c:=I1.some Jc
  have hUp:M1.T=M3.T:=by rw[t1,w1]
  have I3:Qy M3:=by
   rw[Xg]
   refine Qy.Og _ (I2.act fun a ha=>?_)
   rw[w1]
   rcases List.mem_cons.1 ha with rfl|ha
   ·exact⟨n1.c,KB,Zk,hs⟩
   ·exact I1.VD a ha
  rw[hUp]
  have Ej:∀j,j ∉ up M1.T id→j ∉ VI M1.T M1.A id:=fun j hj h=>hj (List.takeWhile_subset _ h)
  have OO:∀j,(Qg M3.N j).map (fun n=>(n.c,n.q,n.du))=(Qg M2.N j).map fun n=>(n.c,n.q,n.du):=fun j=>by
   rw[Xg]
   exact zV (key:=fun n:Nd=>(n.c,n.q,n.du)) (fun M j id=>Qaz now (fun _ _=>rfl) M j id) _ _ j
  have Iy:∀j,j ∉ up M1.T id→Qg M3.N j=Qg M.N j:=fun j hj=>by
   have h1:Qg M3.N j=Qg M2.N j:=by
    rw[Xg]
    exact ON (fun M i id h=>aB (f:=jJ M now) (fun _=>rfl) id h) _ _ j (Ej j hj)
   rw[h1]
   exact Bg j fun e=>hj (by rw[e];exact VH I1.tree KB)
  have QaF:∀j,ZG M3 j=true↔j∈up M1.T id∨ZG M j=true:=fun j=>by
   unfold ZG
   rw[t1,t2,w1,hA,hT,V6,V6]
   simp
  refine Part.settle _ id I3 rfl ?_
  rw[← hUp]
  refine⟨?_,?_,fun p x hx yy=>(QaF _).2 (.inl yy),?_,?_,⟨by rw[tL];exact QaD,fun p=>by rw[t3,w3,hK];exact V.WS.2 p⟩,?_⟩
  ·exact jS.of tL fun j=>AY (fun k=>(k.1,k.2.1.l.isEmpty,k.2.2.VM,k.2.2.dead)) (OO j)
  ·refine V.kt.part (by rw[t3,w3,hK]) (fun j hj=>?_) fun j hj=>by rw[Iy j hj]
   rw[Bool.eq_iff_iff,QaF]
   exact⟨fun h=>h.resolve_left hj,.inr⟩
  ·obtain⟨m3,g1,g2⟩:=wS (OO id) hm
   simp only[Prod.mk.injEq]at g2
   obtain⟨g3,g4,g5⟩:=g2
   refine V.act.at_ g1 (fun j hj=>?_) (fun j hj=>?_) ?_
   ·rw[← Bg j hj]
    exact AY (fun k=>(k.1,k.2.1.l.isEmpty)) (OO j)
   ·rw[t2,hA]
    simp [hj]
   ·rw[t2,g3,g4,zJ,CL,← ec]
    exact⟨fun _=>⟨Zk,hq,hs⟩,fun _=>List.mem_cons_self⟩
  ·exact Qav QaB fun j=>AY (fun k=>(k.1,k.2.1)) (OO j)
  ·rw[Xg]
   have:∀(l:List Int) (M:Qh),Qy M→WR M→WR (l.foldl (K5 now) M):=by
    intro l
    induction l with
    | nil=>intro M _ h;exact h
    | cons j l ih=>
     intro M I h
     refine ih _ (I.K5 now j) ?_
     exact Ix (f:=jJ M now) (fun _=>rfl) (fun n _ hn=>ud I Vo hn) h
   refine this _ _ (I2.act fun a ha=>?_) QaC
   rw[w1]
   rcases List.mem_cons.1 ha with rfl|ha
   ·exact⟨n1.c,KB,Zk,hs⟩
   ·exact I1.VD a ha
 ·rw[if_neg hs]
  refine⟨jS,V.kt.of (by rw[w3,hK]) (fun j=>by unfold ZG;rw[w1,w2,hT,hA]) ZE,?_,QaB,⟨QaD,fun p=>by rw[w3,hK];exact V.WS.2 p⟩,QaC⟩
  refine V.act.at_ hm (fun j hj=>by rw[Bg j hj]) (fun j hj=>by rw[w2,hA]) ?_
  rw[w2,hA,zJ,CL,← ec]
  exact⟨fun h=>absurd h Z9,fun h=>absurd h.2.2 hs⟩
theorem QaG {M:Qh} {cls:Int} {x:Pk} {n:Nd} (hn:Qg M.N cls=some n):JO M cls x=if n.c.leaf=false then 29 else if x.len<1∨M.lk.K9<x.len then 26 else if 1099511627776<M.acc+x.len.toNat then 28
   else if Xb n.c.Q9 n.c.bytes n.q x=true then 30 else 0:=by unfold JO;rw[hn]
theorem aD {M:Qh} {cls:Int} {x:Pk} {n:Nd} (hn:Qg M.N cls=some n) (h:JO M cls x=30):n.c.leaf=true∧Xb n.c.Q9 n.c.bytes n.q x=true:=by
 rw[QaG hn]at h
 split at h
 ·cases h
 ·rename_i h1
  split at h
  ·cases h
  ·split at h
   ·cases h
   ·split at h
    ·rename_i h4
     exact⟨by simpa using h1,h4⟩
    ·cases h
theorem QaH {M:Qh} {cls:Int} {x:Pk} {n:Nd} (hn:Qg M.N cls=some n) (h:JO M cls x=0):n.c.leaf=true∧Xb n.c.Q9 n.c.bytes n.q x=false∧1≤x.len∧x.len≤M.lk.K9∧M.acc+x.len.toNat≤1099511627776:=by
 rw[QaG hn]at h
 split at h
 ·cases h
 ·rename_i h1
  split at h
  ·cases h
  ·rename_i h2
   split at h
   ·cases h
   ·rename_i h3
    split at h
    ·cases h
    ·rename_i h4
     exact⟨by simpa using h1,by simpa using h4,by omega,by omega,by omega⟩
theorem Inv.put {M:Qh} (I:Qy M) (V:Inv M) (now:Nat) (Vo:now<18446744073709551616) (cls:Int) (x:Pk):Inv (Kj M now cls x):=by
 unfold Kj
 cases hn:Qg M.N cls with
 | none=>
  have e:JO M cls x=23:=by unfold JO;rw[hn]
  rw[e,if_neg (by decide),if_neg (by decide)]
  exact V
 | some n=>
  have Zy:Qx M cls=n:=by unfold Qx;rw[hn];rfl
  by_cases Vp:JO M cls x=30
  ·rw[if_pos Vp]
   obtain⟨h1,h2⟩:=aD hn Vp
   exact V.push hn h1 x (.inl h2)
  ·rw[if_neg Vp]
   by_cases h0:JO M cls x=0
   ·rw[if_pos h0,Zy]
    obtain⟨h1,h2,h3,h4,h5⟩:=QaH hn h0
    by_cases hq:n.q.l=[]
    ·rw[if_pos hq]
     have Jc:Qg (WN (JA M cls x) (M.acc+x.len.toNat)).N cls=some { n with q:=Kh n.c.Q9 n.c.bytes n.q x }:=by
      show Qg (JA M cls x).N cls=_
      rw[CJ,if_pos rfl,hn,Zy];rfl
     refine Inv.QqH ((I.JA cls x).WN h5) V hn Jc h1 hq ?_ rfl (fun j hj=>?_) rfl rfl rfl rfl (Qax V.ok cls x) now Vo x.len
     ·dsimp only
      rw[Qaw h2]
      simp
     ·show Qg (JA M cls x).N j=_
      rw[CJ,if_neg hj]
    ·rw[if_neg hq]
     exact(V.push hn h1 x (.inr hq)).acc _
   ·rw[if_neg h0]
    exact V
theorem Inv.VS {M:Qh} (I:Qy M) (V:Inv M) (now:Nat) (Vo:now<18446744073709551616) (cls:Int) (x:Pk):Inv (VS M now cls x):=by
 unfold X.VS
 split
 ·exact Inv.put (yr I now) (V.told now) now Vo cls x
 ·exact V
theorem QqJ {T:List Qj} (hr:KX T) {p j:Int}:j∈KZ T p↔∃c,Qr T j=some c∧c.parent=p:=by
 unfold KZ
 constructor
 ·intro h
  obtain⟨c,h1,rfl⟩:=List.mem_map.1 h
  obtain⟨h2,h3⟩:=List.mem_filter.1 h1
  exact⟨c,(KY hr).2 ⟨h2,rfl⟩,by simpa using h3⟩
 ·rintro⟨c,h1,h2⟩
  obtain⟨h3,rfl⟩:=(KY hr).1 h1
  exact List.mem_map.2 ⟨c,List.mem_filter.2 ⟨h3,by simpa using h2⟩,rfl⟩
theorem QqK (M:Qh) (j id:Int) (h:id≠j):Qg (VR M j).N id=Qg M.N id:=aB (f:=fun n:Nd=>{ n with sh:=jK }) (fun _=>rfl) id h
theorem QqL {α:Type} {key:Nd→α} (hk:∀n:Nd,key { n with sh:=jK }=key n) (M:Qh) (j id:Int):(Qg (VR M j).N id).map key=(Qg M.N id).map key:=
 aA (f:=fun n:Nd=>{ n with sh:=jK }) (fun _=>rfl) hk id
theorem A0 {α:Type} {key:Nd→α} (hk:∀n:Nd,key { n with sh:=jK }=key n) (M:Qh) (j id:Int):(Qg (ZO M j).N id).map key=(Qg M.N id).map key:=by
 unfold ZO
 split
 ·exact zV (QqL hk) _ (Kq M j) id
 ·rfl
theorem OP (M:Qh) (j:Int):(ZO M j).KT=(Kq M j).KT:=by
 unfold ZO
 split
 ·exact(On _ (Kq M j)).2.2.1
 ·rfl
theorem QaI {M:Qh} (I:Qy M) {j:Int} {c:Qj} (h:Qr M.T j=some c):(Qx M j).c=c:=by
 obtain⟨n,h1,h2⟩:=I.HN h
 unfold Qx
 rw[h1]
 exact h2
theorem QaJ {M:Qh} (I:Qy M) (j p:Int) (x:It):x∈(ZO M j).KT p↔x∈M.KT p∧x.ki≠j:=by
 rw[OP]
 unfold Kq
 dsimp only
 split
 ·rename_i e
  rw[Iw,e]
 ·rename_i e
  refine⟨fun h=>⟨h,fun ej=>?_⟩,(·.1)⟩
  obtain⟨c,h1,h2⟩:=I.Yy p x h
  rw[ej]at h1
  rw[QaI I h1]at e
  exact e h2.symm
theorem aE:∀(l:List Int) {M:Qh},Qy M→∀(p:Int) (x:It),x∈(l.foldl ZO M).KT p↔x∈M.KT p∧x.ki ∉ l
 | [],M,I,p,x=>by simp
 | j::l,M,I,p,x=>by
  rw[List.foldl_cons,aE l (I.ZO j) p x,QaJ I]
  simp [and_assoc]
theorem QqM {M:Qh} (I:Qy M) {j p:Int} {x:It} (h:x∈(ZO M j).KT p):Qg (ZO M j).N x.ki=Qg M.N x.ki:=by
 have h2:=h
 rw[OP]at h2
 obtain⟨hx,QD⟩:=(QaJ I j p x).1 h
 obtain⟨c,h3,h4⟩:=I.Yy p x hx
 unfold ZO
 split
 ·rename_i e
  refine ON QqK _ (Kq M j) x.ki fun hc=>?_
  obtain⟨c2,h5,h6⟩:=(QqJ I.tree.rising).1 hc
  rw[h3]at h5
  cases h5
  unfold Kq at h2
  dsimp only at h2
  rw[if_pos (h4.symm.trans h6),e]at h2
  cases h2
 ·rfl
theorem QaK:∀(l:List Int) {M:Qh},Qy M→∀{p:Int} {x:It},x∈(l.foldl ZO M).KT p→Qg (l.foldl ZO M).N x.ki=Qg M.N x.ki
 | [],M,I,p,x,h=>rfl
 | j::l,M,I,p,x,h=>by
  have h1:=QaK l (I.ZO j) h
  exact h1.trans (QqM I (p:=p) ((aE l (I.ZO j) p x).1 h).1)
theorem QaL:∀(l:List Int) {M:Qh},Qy M→∀(i:Int),(∀j∈l,(Qx M j).c.parent≠i)→(l.foldl ZO M).KT i=M.KT i
 | [],M,I,i,h=>rfl
 | j::l,M,I,i,h=>by
  have e:(ZO M j).KT i=M.KT i:=by
   rw[OP]
   unfold Kq
   dsimp only
   rw[if_neg (fun e=>h j List.mem_cons_self e.symm)]
  rw[List.foldl_cons,QaL l (I.ZO j) i,e]
  intro k hk
  have h1:=A0 (key:=fun n:Nd=>n.c.parent) (fun _=>rfl) M j k
  have h2:(Qx (ZO M j) k).c.parent=(Qx M k).c.parent:=by
   unfold Qx
   cases h3:Qg M.N k with
   | none=>
    rw[h3,Option.map_none,Option.map_eq_none_iff]at h1
    rw[h1]
   | some n=>
    rw[h3]at h1
    obtain⟨m,h4,h5⟩:=Option.map_eq_some_iff.1 h1
    rw[h4]
    exact h5
  rw[h2]
  exact h k (List.mem_cons_of_mem _ hk)
theorem QqN {M:Qh} (V:WR M) (j:Int):WR (ZO M j):=by
 have go:∀(l:List Int) (M:Qh),WR M→WR (l.foldl VR M):=by
  intro l
  induction l with
  | nil=>intro M h;exact h
  | cons j l ih=>
   intro M h
   exact ih _ (Ix (f:=fun n:Nd=>{ n with sh:=jK }) (fun _=>rfl) (fun n _ h=>⟨h.ZM,h.du,ug,h.cp,h.c⟩) h)
 unfold ZO
 split
 ·exact go _ (Kq M j) V
 ·exact V
theorem QaM:∀(l:List Int) {M:Qh},WR M→WR (l.foldl ZO M)
 | [],M,h=>h
 | j::l,M,h=>QaM l (QqN h j)
theorem QaN:∀(l:List Int) {M:Qh},yx M→yx (l.foldl ZO M)
 | [],M,h=>h
 | j::l,M,h=>by
  refine QaN l ⟨?_,fun p=>?_⟩
  ·rw[(uh M j).2.2.2.2.2];exact h.1
  ·rw[OP]
   unfold Kq
   dsimp only
   split
   ·exact ar (h.2 _)
   ·exact h.2 p
theorem QqO (len:Nat) (M:Qh) (j id:Int) (h:id≠j):Qg (Ki len M j).N id=Qg M.N id:=aB (f:=wN len) (fun _=>rfl) id h
theorem QaO (len:Nat) {α:Type} {key:Nd→α} (hk:∀n:Nd,key (wN len n)=key n) (M:Qh) (j id:Int):(Qg (Ki len M j).N id).map key=(Qg M.N id).map key:=
 aA (f:=wN len) (fun _=>rfl) hk id
theorem QaP (len:Nat):∀(l:List Int) {M:Qh},WR M→WR (l.foldl (Ki len) M)
 | [],M,h=>h
 | j::l,M,h=>QaP len l (Ix (f:=wN len) (fun _=>rfl) (fun n _ hn=>uv hn len) h)
theorem QaQ (M:Qh) (id:Int) (ZU:Int) (r:Bool) (j:Int):Qg (Vn M id ZU r).N j=if j=id∧1<QI (Qx M id).c.rt then (Qg M.N j).map (fun n=>{ n with du:=Xe (Qx M id) ZU r }) else Qg M.N j:=by
 unfold Vn
 by_cases h:1<QI (Qx M id).c.rt
 ·rw[if_pos h]
  dsimp only
  rw[Wu (f:=fun n:Nd=>{ n with du:=Xe (Qx M id) ZU r }) (fun _=>rfl)]
  simp [h]
 ·rw[if_neg h,if_neg (fun e=>h e.2)]
theorem Inv.take {M:Qh} (I:Qy M) (V:Inv M) {id:Int} {n:Nd} (hn:Qg M.N id=some n) (hl:n.c.leaf=true) (hq:n.q.l≠[]) (r:Bool):Inv (XB M id r):=by
 have Zy:Qx M id=n:=by unfold Qx;rw[hn];rfl
 have KB:=I.some hn
 have jc:id∈up M.T id:=VH I.tree KB
 have Fl:∀j,Qg (Wc M id).N j=if j=id then (Qg M.N j).map (fun n=>{ n with q:=Vg (Qx M id).q }) else Qg M.N j:=fun j=>
  Wu (f:=fun n:Nd=>{ n with q:=Vg (Qx M id).q }) (fun _=>rfl) j
 unfold XB
 dsimp only
 rw[Zy]
 generalize hlen:(n.q.l.headD default).len=len
 obtain⟨M2,Xi⟩:∃M2,M2=(up M.T id).foldl (Ki len.toNat) (Wc M id):=⟨_,rfl⟩
 rw[← Xi]
 have I2:Qy M2:=by rw[Xi];exact Qy.UI _ (I.Wc id)
 obtain⟨b1,b2,b3,b4,b5,b6,b7⟩:=H9 len.toNat (up M.T id) (Wc M id)
 rw[← Xi]at b1 b2 b3 b4 b5 b6 b7
 have QqP:∀j,j ∉ up M.T id→Qg M2.N j=Qg M.N j:=fun j hj=>by
  rw[Xi,ON (QqO len.toNat) _ _ j hj,Fl,if_neg (fun e=>hj (by rw[e];exact jc))]
 have ZE:∀j,(Qg M2.N j).map (fun n=>(n.c,n.q,n.du))=(Qg (Wc M id).N j).map fun n=>(n.c,n.q,n.du):=fun j=>by
  rw[Xi]
  exact zV (key:=fun n:Nd=>(n.c,n.q,n.du)) (fun M j id=>QaO len.toNat (fun _=>rfl) M j id) _ _ j
 have QqQ:(Qg M2.N id).map (fun n=>(n.c,n.q,n.du))=some (n.c,Vg n.q,n.du):=by
  rw[ZE,Fl,if_pos rfl,hn,Zy];rfl
 have Hg:∀j,j≠id→(Qg M2.N j).map (fun n=>(n.c,n.q,n.du))=(Qg M.N j).map fun n=>(n.c,n.q,n.du):=fun j hj=>by
  rw[ZE,Fl,if_neg hj]
 obtain⟨m2,KH,e2⟩:=Option.map_eq_some_iff.1 QqQ
 simp only[Prod.mk.injEq]at e2
 obtain⟨c2,q2,d2⟩:=e2
 have QaR:Qx M2 id=m2:=by unfold Qx;rw[KH];rfl
 have aF:WR M2:=by
  rw[Xi]
  exact QaP _ _ (Ix (f:=fun n:Nd=>{ n with q:=Vg (Qx M id).q }) (fun _=>rfl) (fun n _ h=>⟨h.ZM,h.du,h.sh,h.cp,h.c⟩) V.ok)
 obtain⟨M3,Xg⟩:∃M3,M3=Vn M2 id len r:=⟨_,rfl⟩
 rw[← Xg]
 have I3:Qy M3:=by rw[Xg];exact I2.Vn KH len r
 obtain⟨a1,a2,a3,a4,a5,a6⟩:=Ov M2 id len r
 rw[← Xg]at a1 a2 a3 a4 a5 a6
 have hF:∀j,Qg M3.N j=if j=id∧1<QI n.c.rt then (Qg M2.N j).map (fun n=>{ n with du:=Xe m2 len r }) else Qg M2.N j:=fun j=>by
  rw[Xg,QaQ,QaR,c2]
 have Iy:∀j,j ∉ up M.T id→Qg M3.N j=Qg M.N j:=fun j hj=>by
  rw[hF,if_neg (fun e=>hj (by rw[e.1];exact jc)),QqP j hj]
 have aG:∀j,j≠id→Qg M3.N j=Qg M2.N j:=fun j hj=>by rw[hF,if_neg (fun e=>hj e.1)]
 obtain⟨m,hm,zJ,CL,NY⟩:∃m,Qg M3.N id=some m∧m.c=n.c∧m.q=Vg n.q∧(1<QI n.c.rt→m.du=Xe m2 len r):=by
  rw[hF,KH]
  by_cases h:1<QI n.c.rt
  ·rw[if_pos ⟨rfl,h⟩]
   exact⟨_,rfl,c2,q2,fun _=>rfl⟩
  ·rw[if_neg (fun e=>h e.2)]
   exact⟨_,rfl,c2,q2,fun e=>absurd e h⟩
 have QaS:WR M3:=fun j k hj=>by
  rw[hF]at hj
  split at hj
  ·obtain⟨k0,h1,rfl⟩:=Option.map_eq_some_iff.1 hj
   have h2:=aF j k0 h1
   exact⟨h2.ZM,ua (aF id m2 KH) len r,h2.sh,h2.cp,h2.c⟩
  ·exact aF j k hj
 have aH:M3.Lv=if 1<QI n.c.rt then (if (Vg n.q).l=[] then JH id (VL id (Xe m2 len r).VM (Xe m2 len r).dead M.Lv) else VL id (Xe m2 len r).VM (Xe m2 len r).dead M.Lv) else M.Lv:=by
  rw[Xg]
  unfold Vn
  rw[QaR,c2,q2]
  split
  ·dsimp only
   rw[b7];rfl
  ·exact b7
 have jS:wQ M3:=V.lv.at_ hm (fun j hj=>by
   rw[aG j hj]
   exact AY (fun k=>(k.1,k.2.1.l.isEmpty,k.2.2.VM,k.2.2.dead)) (Hg j hj)) (fun y hy=>by
   rw[aH]
   split
   ·split
    ·rw[Iw,AV]
     exact⟨fun h=>h.1.elim (fun e=>absurd (congrArg It.ki e) hy) (·.1),fun h=>⟨.inr ⟨h,hy⟩,hy⟩⟩
    ·rw[AV]
     exact⟨fun h=>h.elim (fun e=>absurd (congrArg It.ki e) hy) (·.1),fun h=>.inr ⟨h,hy⟩⟩
   ·exact Iff.rfl) fun y hy=>by
   rw[aH,zJ,CL]
   by_cases h:1<QI n.c.rt
   ·rw[if_pos h,NY h]
    split
    ·rename_i he
     rw[Iw]
     exact⟨fun e=>absurd hy e.2,fun e=>absurd he e.2.1⟩
    ·rename_i he
     rw[AV]
     exact⟨fun e=>e.elim (fun e=>⟨hl,he,h,e⟩) fun e=>absurd hy e.2,fun e=>.inl e.2.2.2⟩
   ·rw[if_neg h]
    refine⟨fun e=>?_,fun e=>absurd e.2.2.1 h⟩
    obtain⟨k,h1,_,_,h4,_⟩:=(V.lv y).1 e
    rw[hy,hn]at h1
    cases h1
    exact absurd h4 h
 have QaT:yx M3:=⟨by
   rw[aH]
   split
   ·split
    ·exact ar (OM V.WS.1)
    ·exact OM V.WS.1
   ·exact V.WS.1,fun p=>by rw[a3,b3];exact V.WS.2 p⟩
 have QaU:wR M3:=fun j k hj wP=>by
  by_cases e:j=id
  ·subst e
   rw[hm]at hj
   cases hj
   rw[zJ,hl]at wP
   cases wP
  ·rw[aG j e]at hj
   obtain⟨k0,h1,h2⟩:=wS (Hg j e).symm hj
   simp only[Prod.mk.injEq]at h2
   rw[← h2.2.1]
   exact V.jT j k0 h1 (by rw[h2.1];exact wP)
 have zQ:M3.T=M.T:=by rw[a1,b1];rfl
 have Fm:M3.A=M.A:=by rw[a2,b2];rfl
 have aI:M3.KT=M.KT:=by rw[a3,b3];rfl
 have Ux:∀p x,x.ki ∉ up M.T id→(x∈M3.KT p↔WQ M3 p x):=V.kt.part aI (fun j _=>by unfold ZG;rw[zQ,Fm]) fun j hj=>by rw[Iy j hj]
 have QaV:∀j,j≠id→(Qg M3.N j).map zU=(Qg M.N j).map zU:=fun j hj=>by
  rw[aG j hj]
  exact AY (fun k=>(k.1,k.2.1.l.isEmpty)) (Hg j hj)
 have stay:(id∈M.A↔(Vg n.q).l≠[]∧1<QI n.c.ls)→Inv (JT M3 (up M.T id)):=fun ZJ=>by
  rw[← zQ]
  refine Part.settle _ id I3 rfl ?_
  rw[zQ]
  refine⟨jS,Ux,fun p x hx yy=>?_,V.act.at_ hm QaV (fun j _=>by rw[Fm]) ?_,QaU,QaT,QaS⟩
  ·rw[aI]at hx
   obtain⟨_,_,_,h,_⟩:=(V.kt p x).1 hx
   show Zu M3.T M3.A x.ki=true
   rw[zQ,Fm]
   exact h
  ·rw[Fm,zJ,CL,ZJ]
   exact⟨fun h=>⟨hl,h⟩,fun h=>h.2⟩
 have V3:id∈M.A↔1<QI n.c.ls:=by
  rw[V.act id,hn]
  constructor
  ·rintro⟨k,h1,_,_,h4⟩
   cases h1
   exact h4
  ·intro h
   exact⟨n,rfl,hl,hq,h⟩
 by_cases OQ:(Vg n.q).l=[]
 ·rw[if_pos OQ]
  have QqR:Qx M3 id=m:=by unfold Qx;rw[hm];rfl
  unfold Xf
  rw[QqR,zJ]
  by_cases hs:1<QI n.c.ls
  ·rw[if_pos hs]
   have QqS:=V3.2 hs
   obtain⟨Mo,wT⟩:∃Mo,Mo={ M3 with A:=Z1 M3.A id }:=⟨_,rfl⟩
   have Io:Qy Mo:=by rw[wT];exact I3.act (I3.VD.off id)
   rw[← wT]
   obtain⟨U,hU⟩:∃U,U=VI M3.T (Z1 M3.A id) id:=⟨_,rfl⟩
   rw[← hU]
   obtain⟨M4,qo⟩:∃M4,M4=U.foldl ZO Mo:=⟨_,rfl⟩
   rw[← qo]
   have I4:Qy M4:=by rw[qo];exact Qy.HY _ Io
   obtain⟨s1,s2,s3,s4,s5,s6⟩:=EZ U Mo
   rw[← qo]at s1 s2 s3 s4 s5 s6
   have E4:M4.T=M.T:=by rw[s1,wT];exact zQ
   have OR:M4.A=Z1 M.A id:=by rw[s2,wT];dsimp only;rw[Fm]
   have x4:Mo.N=M3.N:=by rw[wT]
   have hoK:Mo.KT=M.KT:=by rw[wT];exact aI
   have aJ:∀j∈U,j∈up M.T id:=fun j hj=>by
    rw[hU,zQ]at hj
    exact List.takeWhile_subset _ hj
   have Ve:∀p x,x∈M4.KT p↔x∈M.KT p∧x.ki ∉ U:=fun p x=>by
    rw[qo,aE U Io p x,hoK]
   have Yo:∀j,ZG M j=true↔j∈up M.T id∨ZG M4 j=true:=fun j=>by
    unfold ZG
    rw[E4,OR]
    exact BU QqS j
   have QqT:∀j,j∈up M.T id→j ∉ U→ZG M4 j=true:=fun j hj yo=>by
    rw[hU,zQ,Fm]at yo
    unfold ZG
    rw[E4,OR]
    unfold VI at yo
    have OS:=List.takeWhile_append_dropWhile (p:=fun i=>!Zu M.T (Z1 M.A id) i) (l:=up M.T id)
    rw[← OS]at hj
    rcases List.mem_append.1 hj with hj|hj
    ·exact absurd hj yo
    ·cases hd:(up M.T id).dropWhile (fun i=>!Zu M.T (Z1 M.A id) i) with
     | nil=>rw[hd]at hj;cases hj
     | cons k rest=>
      have hk:Zu M.T (Z1 M.A id) k=true:=by
       have:=List.head_dropWhile_not (fun i=>!Zu M.T (Z1 M.A id) i) (l:=up M.T id) (by rw[hd];simp)
       simp only[hd,List.head_cons]at this
       simpa using this
      rw[hd]at hj OS
      have QqU:k∈up M.T id:=by rw[← OS];simp
      obtain⟨ck,hck⟩:=Option.isSome_iff_exists.1 (BS QqU)
      have X9:rest=up M.T ck.parent:=Qki I.tree (OS.symm) hck
      rcases List.mem_cons.1 hj with rfl|hj
      ·exact hk
      ·refine BT I.tree hk ?_
       rw[JS I.tree hck,← X9]
       exact List.mem_cons_of_mem _ hj
   have fwd:∀p x,x.ki ∉ up M.T id→x∈M4.KT p→WQ M4 p x:=fun p x hx h=>by
    have hxM:=((Ve p x).1 h).1
    obtain⟨n0,h1,h2,h3,h4⟩:=(V.kt p x).1 hxM
    have hn4:Qg M4.N x.ki=some n0:=by
     have h5:Qg M4.N x.ki=Qg Mo.N x.ki:=by
      rw[qo]
      rw[qo]at h
      exact QaK U Io h
     rw[h5,x4,Iy _ hx,h1]
    have ha4:ZG M4 x.ki=true:=((Yo _).1 h3).resolve_left hx
    refine⟨n0,hn4,h2,ha4,?_⟩
    have hK4:M4.KT x.ki=M.KT x.ki:=by
     rw[qo,QaL U Io x.ki,hoK]
     intro j hj e
     obtain⟨cj,hcj⟩:=Option.isSome_iff_exists.1 (BS (aJ j hj))
     have QqY:Qr Mo.T j=some cj:=by rw[wT];dsimp only;rw[zQ];exact hcj
     rw[QaI Io QqY]at e
     refine hx (up_sub I.tree (aJ j hj) ?_)
     rw[JS I.tree hcj,e]
     exact List.mem_cons_of_mem _ (VH I.tree (I.some h1))
    rw[ay (n:=n0) rfl (by rw[ha4,h3]) hK4]
    exact h4
   rw[← E4]
   refine Part.settle _ id I4 rfl ?_
   rw[E4]
   refine⟨?_,fun p x hx=>⟨fwd p x hx,fun hd=>?_⟩,fun p x h yy=>QqT _ yy ((Ve p x).1 h).2,?_,?_,?_,?_⟩
   ·refine jS.of (by rw[s6,wT]) fun j=>?_
    rw[qo,zV (A0 (key:=AW) (fun _=>rfl)) U Mo j,x4]
   ·obtain⟨k,h1,h2,h3,h4⟩:=hd
    have AZ:(Qg M4.N x.ki).map (fun n=>n.c)=(Qg M3.N x.ki).map fun n=>n.c:=by
     rw[qo,zV (A0 (key:=fun n:Nd=>n.c) (fun _=>rfl)) U Mo x.ki,x4]
    obtain⟨n0,h5,h6⟩:=wS AZ.symm h1
    rw[Iy _ hx]at h5
    have QqZ:(⟨n0.sh.time,x.ki,KD M x.ki n0,x.ki⟩:It)∈M.KT p:=(V.kt p _).2 ⟨n0,h5,by rw[h6];exact h2,(Yo _).2 (.inr h3),rfl⟩
    have Qa0:=(Ve p _).2 ⟨QqZ,fun hU2=>hx (aJ _ hU2)⟩
    obtain⟨k2,g1,g2,g3,g4⟩:=fwd p ⟨n0.sh.time,x.ki,KD M x.ki n0,x.ki⟩ hx Qa0
    dsimp only at g1 g4
    rw[h1]at g1
    cases g1
    rw[← g4]at h4
    rw[h4]
    exact Qa0
   ·refine V.act.at_ (id:=id) (m:=(Qx M4 id)) ?_ (fun j hj=>?_) (fun j hj=>?_) ?_
    ·have AZ:(Qg M4.N id).map (fun n=>n.c)=(Qg M3.N id).map fun n=>n.c:=by
      rw[qo,zV (A0 (key:=fun n:Nd=>n.c) (fun _=>rfl)) U Mo id,x4]
     obtain⟨k,h5,_⟩:=wS AZ hm
     unfold Qx
     rw[h5];rfl
    ·rw[qo,zV (A0 (key:=zU) (fun _=>rfl)) U Mo j,x4]
     exact QaV j hj
    ·rw[OR]
     simp [Z1,hj]
    ·have AZ:(Qg M4.N id).map (fun n=>n.q)=(Qg M3.N id).map fun n=>n.q:=by
      rw[qo,zV (A0 (key:=fun n:Nd=>n.q) (fun _=>rfl)) U Mo id,x4]
     obtain⟨k,h5,h6⟩:=wS AZ hm
     have hk:Qx M4 id=k:=by unfold Qx;rw[h5];rfl
     rw[hk,h6,CL,OR]
     simp [Z1,OQ]
   ·refine Qav QaU fun j=>?_
    rw[qo,zV (A0 (key:=fun n:Nd=>(n.c,n.q)) (fun _=>rfl)) U Mo j,x4]
   ·rw[qo]
    refine QaN U ?_
    rw[wT]
    exact QaT
   ·rw[qo]
    refine QaM U ?_
    rw[wT]
    exact QaS
  ·rw[if_neg hs]
   exact stay ⟨fun h=>absurd (V3.1 h) hs,fun h=>absurd h.2 hs⟩
 ·rw[if_neg OQ]
  exact stay (V3.trans ⟨fun h=>⟨OQ,h⟩,(·.2)⟩)
def Ky (T2:List Qj) (j:Int):Bool:=match Qr T2 j with
 | some c=>!c.leaf
 | none=>false
theorem Qa1 {T2:List Qj} (M:Qh) (j id:Int):(Z2 T2 M j).KT id=if id=j∧Ky T2 j=true then [] else M.KT id:=by
 unfold Z2 Ky
 cases hf:Qr T2 j with
 | none=>simp
 | some c=>
  dsimp only
  by_cases hl:c.leaf=true
  ·rw[if_pos hl,if_neg (fun e=>by rw[hl]at e;exact absurd e.2 (by decide))]
  ·rw[if_neg hl]
   dsimp only
   by_cases e:id=j
   ·rw[if_pos e,if_pos ⟨e,by simpa using hl⟩]
   ·rw[if_neg e,if_neg (fun h=>e h.1)]
theorem Qa2 {T2:List Qj} (id:Int):∀(l:List Int) (M:Qh),id ∉ l→(l.foldl (Z2 T2) M).KT id=M.KT id
 | [],M,_=>rfl
 | j::l,M,h=>by
  rw[List.mem_cons,not_or]at h
  rw[List.foldl_cons,Qa2 id l _ h.2,Qa1,if_neg (fun e=>h.1 e.1)]
theorem Qq1 {T2:List Qj} {M:Qh} (V:yx M) (j:Int):yx (Z2 T2 M j):=by
 refine⟨by rw[(u6 (T2:=T2) M j).2.1];exact V.1,fun p=>?_⟩
 rw[Qa1]
 split
 ·simp [JG]
 ·exact V.2 p
theorem Qa3 {T2:List Qj}:∀(l:List Int) {M:Qh},yx M→yx (l.foldl (Z2 T2) M)
 | [],M,h=>h
 | j::l,M,h=>Qa3 l (Qq1 h j)
theorem Qa4 (T2:List Qj) (id:Int):∀(l:List Int) (A:List Int),id∈l.foldl (qm T2) A↔id∈A∨(id∈l∧1<QI ((Qr T2 id).getD default).ls)
 | [],A=>by simp
 | j::l,A=>by
  rw[List.foldl_cons,Qa4 T2 id l]
  unfold qm
  constructor
  ·rintro (h|⟨h,h2⟩)
   ·split at h
    ·rename_i h3
     rcases List.mem_cons.1 h with rfl|h
     ·exact .inr ⟨List.mem_cons_self,h3⟩
     ·exact .inl h
    ·exact .inl h
   ·exact .inr ⟨List.mem_cons_of_mem _ h,h2⟩
  ·rintro (h|⟨h,h2⟩)
   ·refine .inl ?_
    split
    ·exact List.mem_cons_of_mem _ h
    ·exact h
   ·rcases List.mem_cons.1 h with rfl|h
    ·refine .inl ?_
     rw[if_pos h2]
     exact List.mem_cons_self
    ·exact .inr ⟨h,h2⟩
theorem yz {M:Qh} (I:Qy M) {id:Int}:id∈J6 M↔∃n,Qg M.N id=some n∧n.c.leaf=true∧n.q.l≠[]:=by
 constructor
 ·intro h
  obtain⟨h1,h2⟩:=List.mem_filter.1 (show id∈(YD M.T).filter _ from h)
  obtain⟨n,h3,h4,h5⟩:=OG I h1
  refine⟨n,h3,h4,fun e=>?_⟩
  unfold yu Qx at h2
  rw[h3]at h2
  simp [e]at h2
 ·rintro⟨n,hn,hl,hq⟩
  have hc:=I.some hn
  obtain⟨h1,h2⟩:=(KY I.tree.rising).1 hc
  refine List.mem_filter.2 ⟨List.mem_map.2 ⟨n.c,List.mem_filter.2 ⟨h1,hl⟩,h2⟩,?_⟩
  unfold yu Qx
  rw[hn]
  cases qT:n.q.l with
  | nil=>exact absurd qT hq
  | cons x l=>simp [qT]
section
variable {M:Qh} (I:Qy M) (V:Inv M) {T2:List Qj} (I2:JD T2) (K2:qV T2) {b:Bool} (hb:ql M T2 b=false)
include I V I2 K2 hb
theorem Inv.OK:Qy (Xk M T2):=X.OK I I2 K2 hb (Good.jS I V.Fj) (Good.AS I V.Fj)
omit I V I2 K2 in
theorem Fo {id:Int} (Ip:jQ M id=true):id ∉ Je M.T T2:=fun hm=>by
 unfold ql at hb
 rw[show (Je M.T T2).any (jQ M)=true from List.any_eq_true.2 ⟨id,hm,Ip⟩]at hb
 cases hb
omit V K2 in
theorem OT {id:Int} (Ip:jQ M id=true):Qg (Wx M T2) id=Qg M.N id:=by
 rw[CG I I2]
 unfold KE
 rw[AR I2.rising,if_neg (Fo hb Ip)]
omit I V I2 K2 hb in
theorem Fp {a x:Int} (h1:a∈J6 M) (h2:x∈up M.T a):jQ M x=true:=List.any_eq_true.2 ⟨a,h1,by simpa using h2⟩
omit V K2 in
theorem Qq2 {a:Int} (h1:a∈J6 M):∀(k:Nat) (x:Int),(up M.T x).length=k→(x=0∨x∈up M.T a)→up T2 x=up M.T x:=by
 intro k
 induction k using Nat.strongRecOn with
 | ind k ih=>
  intro x hk hx
  rcases hx with rfl|hx
  ·rw[BR I2,BR I.tree]
  ·obtain⟨c,hc⟩:=Option.isSome_iff_exists.1 (BS hx)
   have h2:Qr T2 x=some c:=by
    refine Classical.byContradiction fun e=>?_
    exact Fo hb (Fp h1 hx) (Cs.2 (by rw[hc];exact fun e2=>e e2.symm))
   rw[JS I2 h2,JS I.tree hc]
   rw[JS I.tree hc,List.length_cons]at hk
   congr 1
   refine ih _ (by omega) c.parent rfl ?_
   by_cases h0:c.parent=0
   ·exact .inl h0
   ·obtain⟨d,hd,_⟩:=I.tree.XN c (zB I.tree hc) h0
    refine .inr (up_sub I.tree hx ?_)
    rw[JS I.tree hc]
    exact List.mem_cons_of_mem _ (VH I.tree hd)
omit V K2 in
theorem Qa5 {a:Int} (h1:a∈J6 M):up T2 a=up M.T a:=by
 obtain⟨n,hn,_⟩:=(yz I).1 h1
 exact Qq2 I I2 hb h1 _ a rfl (.inr (VH I.tree (I.some hn)))
theorem Qq3 {id:Int}:id∈J6 (Xk M T2)↔id∈J6 M:=by
 have I1:=V.OK I I2 K2 hb
 rw[yz I1]
 constructor
 ·rintro⟨n,h1,h2,h3⟩
  have ZB:Qg (Wx M T2) id=some n:=h1
  rw[CG I I2]at ZB
  unfold KE at ZB
  rw[AR I2.rising]at ZB
  split at ZB
  ·obtain⟨c,_,rfl⟩:=Option.map_eq_some_iff.1 ZB
   exact absurd rfl h3
  ·exact(yz I).2 ⟨n,ZB,h2,h3⟩
 ·intro h
  obtain⟨n,h1,h2,h3⟩:=(yz I).1 h
  refine⟨n,?_,h2,h3⟩
  show Qg (Wx M T2) id=some n
  rw[OT I I2 hb (Fp h (VH I.tree (I.some h1)))]
  exact h1
theorem aK {id:Int}:id∈(jR M T2).A↔id∈M.A:=by
 show id∈(J6 (Xk M T2)).foldl (qm T2) []↔_
 rw[Qa4,Qq3 I V I2 K2 hb,V.act id]
 constructor
 ·rintro (h|⟨h1,h2⟩)
  ·cases h
  ·obtain⟨n,h3,h4,h5⟩:=(yz I).1 h1
   refine⟨n,h3,h4,h5,?_⟩
   have hs:id ∉ Je M.T T2:=Fo hb (Fp h1 (VH I.tree (I.some h3)))
   have h6:Qr T2 id=Qr M.T id:=Classical.byContradiction fun e=>hs (Cs.2 fun e2=>e e2.symm)
   rw[h6,I.some h3]at h2
   exact h2
 ·rintro⟨n,h3,h4,h5,h6⟩
  have h1:id∈J6 M:=(yz I).2 ⟨n,h3,h4,h5⟩
  refine .inr ⟨h1,?_⟩
  have hs:id ∉ Je M.T T2:=Fo hb (Fp h1 (VH I.tree (I.some h3)))
  have h7:Qr T2 id=Qr M.T id:=Classical.byContradiction fun e=>hs (Cs.2 fun e2=>e e2.symm)
  rw[h7,I.some h3]
  exact h6
theorem aL (id:Int):ZG (jR M T2) id=ZG M id:=by
 have hT:(jR M T2).T=T2:=(Fc (T2:=T2) (Je M.T T2) { M with T:=T2 }).1
 rw[Bool.eq_iff_iff]
 unfold ZG
 rw[hT,V6,V6]
 have hl:∀a∈M.A,a∈J6 M:=fun a ha=>by
  obtain⟨n,h1,h2,h3,_⟩:=(V.act a).1 ha
  exact(yz I).2 ⟨n,h1,h2,h3⟩
 constructor
 ·rintro⟨a,ha,hu⟩
  have qW:=(aK I V I2 K2 hb).1 ha
  exact⟨a,qW,by rw[← Qa5 I I2 hb (hl a qW)];exact hu⟩
 ·rintro⟨a,ha,hu⟩
  exact⟨a,(aK I V I2 K2 hb).2 ha,by rw[Qa5 I I2 hb (hl a ha)];exact hu⟩
theorem Inv.change:Inv (jR M T2):=by
 obtain⟨f1,f2,f3,f4,f5⟩:=Fc (T2:=T2) (Je M.T T2) { M with T:=T2 }
 have hL:(jR M T2).Lv=M.Lv:=f2
 have h0:(0:Int) ∉ Je M.T T2:=fun h=>Cs.1 h (by rw[BQ I.tree,BQ I2])
 have LV:∀{id:Int} {n:Nd},Qg M.N id=some n→n.c.leaf=true→n.q.l≠[]→Qg (jR M T2).N id=some n:=fun {id n} h1 h2 h3=>by
  show Qg (Wx M T2) id=some n
  rw[OT I I2 hb (Fp ((yz I).2 ⟨n,h1,h2,h3⟩) (VH I.tree (I.some h1)))]
  exact h1
 have y8:∀{id:Int} {n:Nd},Qg (jR M T2).N id=some n→n.q.l≠[]→Qg M.N id=some n:=fun {id n} h1 h3=>by
  have ZB:Qg (Wx M T2) id=some n:=h1
  rw[CG I I2]at ZB
  unfold KE at ZB
  rw[AR I2.rising]at ZB
  split at ZB
  ·obtain⟨c,_,rfl⟩:=Option.map_eq_some_iff.1 ZB
   exact absurd rfl h3
  ·exact ZB
 have J3:∀{id:Int},ZG M id=true→jQ M id=true:=fun {id} h=>by
  obtain⟨a,ha,hu⟩:=V6.1 h
  obtain⟨n,h1,h2,h3,_⟩:=(V.act a).1 ha
  exact Fp ((yz I).2 ⟨n,h1,h2,h3⟩) hu
 have Qa6:∀{id:Int},id ∉ Je M.T T2→(jR M T2).KT id=M.KT id:=fun {id} h=>Qa2 id (Je M.T T2) { M with T:=T2 } h
 have Dg:∀{id:Int} {n:Nd},ZG M id=true→KD (jR M T2) id n=KD M id n:=fun {id n} h=>ay rfl (aL I V I2 K2 hb id) (Qa6 (Fo hb (J3 h)))
 have au:∀p x,WQ (jR M T2) p x↔WQ M p x:=fun p x=>by
  constructor
  ·rintro⟨n,h1,h2,h3,h4⟩
   rw[aL I V I2 K2 hb]at h3
   have h5:Qg M.N x.ki=some n:=by
    have:Qg (Wx M T2) x.ki=some n:=h1
    rwa [OT I I2 hb (J3 h3)]at this
   exact⟨n,h5,h2,h3,by rw[← Dg h3];exact h4⟩
  ·rintro⟨n,h1,h2,h3,h4⟩
   refine⟨n,?_,h2,by rw[aL I V I2 K2 hb];exact h3,by rw[Dg h3];exact h4⟩
   show Qg (Wx M T2) x.ki=some n
   rw[OT I I2 hb (J3 h3)]
   exact h1
 have aw:∀{p:Int} {x:It},WQ M p x→p ∉ Je M.T T2:=fun {p x} ⟨n,h1,h2,h3,_⟩=>by
  by_cases hp:p=0
  ·rw[hp];exact h0
  ·refine Fo hb (J3 (BT I.tree h3 ?_))
   have KB:=I.some h1
   obtain⟨d,hd,_⟩:=I.tree.XN n.c (zB I.tree KB) (by rw[h2];exact hp)
   rw[JS I.tree KB,← h2]
   exact List.mem_cons_of_mem _ (VH I.tree hd)
 refine⟨fun x=>?_,fun p x=>?_,fun id=>?_,fun id n h hl=>?_,Qa3 _ V.WS,fun id n h=>?_⟩
 ·rw[hL,V.lv x]
  constructor
  ·rintro⟨n,h1,h2,h3,h4,h5⟩
   exact⟨n,LV h1 h2 h3,h2,h3,h4,h5⟩
  ·rintro⟨n,h1,h2,h3,h4,h5⟩
   exact⟨n,y8 h1 h3,h2,h3,h4,h5⟩
 ·rw[au]
  constructor
  ·intro h
   have h2:x∈M.KT p:=OJ p (Je M.T T2) { M with T:=T2 } h
   exact(V.kt p x).1 h2
  ·intro h
   rw[Qa6 (aw h)]
   exact(V.kt p x).2 h
 ·rw[aK I V I2 K2 hb,V.act id]
  constructor
  ·rintro⟨n,h1,h2,h3,h4⟩
   exact⟨n,LV h1 h2 h3,h2,h3,h4⟩
  ·rintro⟨n,h1,h2,h3,h4⟩
   exact⟨n,y8 h1 h3,h2,h3,h4⟩
 ·have ZB:Qg (Wx M T2) id=some n:=h
  rw[CG I I2]at ZB
  unfold KE at ZB
  rw[AR I2.rising]at ZB
  split at ZB
  ·obtain⟨c,_,rfl⟩:=Option.map_eq_some_iff.1 ZB
   rfl
  ·exact V.jT id n ZB hl
 ·have ZB:Qg (Wx M T2) id=some n:=h
  rw[CG I I2]at ZB
  unfold KE at ZB
  rw[AR I2.rising]at ZB
  split at ZB
  ·obtain⟨c,hc,rfl⟩:=Option.map_eq_some_iff.1 ZB
   exact uZ (K2 c (zB I2 hc))
  ·exact V.ok id n ZB
end
theorem qZ.uniq {M:Qh} {now:Nat} {o o':Option It} (a:qZ M now o) (b:qZ M now o'):o=o':=by
 unfold qZ at a b
 cases o with
 | none=>
  cases o' with
  | none=>rfl
  | some y=>
   have h1:_=[]:=a
   have h2:=J4.mem b
   rw[h1]at h2
   cases h2
 | some x=>
  cases o' with
  | none=>
   have h1:_=[]:=b
   have h2:=J4.mem a
   rw[h1]at h2
   cases h2
  | some y=>exact congrArg some (J4.uniq a b)
@[go_sem] def Ks (l:List Act):D:=.imm 11 l.length (Act.rows l)
def CM (a:Act):Bool:=decide (a.changes.length≤40)
def zW (l:List Act):Bool:=decide (l.length≤60)&&l.all CM
def CN (c:Cf):Bool:=decide (1≤c.t)&&decide (c.t≤65536)&&decide (1≤c.K9)&&decide (c.K9≤16384)
theorem OU (c:Cf):Q8 prog 10 [.agg c.cells] (Ql (QN (CN c))):=by
 unfold CN
 refine Zb 0 Qe 200 func10 rfl ntmps10 results10 rfl fun base w hb=>?_
 simp only[go_sem,simprocAttr]
 all_goals (cases h1:decide (1≤c.t)<;>cases h2:decide (c.t≤65536)<;>cases h3:decide (1≤c.K9)<;>cases h4:decide (c.K9≤16384)<;>simp only[go_sem,simprocAttr,h1,h2,h3,h4])
theorem OV (l:List Act):Q8 prog 9 [Ks l] (Ql (QN (zW l))):=by
 by_cases Iz:l.length≤60
 ·have d0:decide ((60:Int)<(l.length:Int))=false:=decide_eq_false (by omega)
  have e0:zW l=l.all CM:=by unfold zW;rw[decide_eq_true Iz];rfl
  rw[e0]
  refine Zb 0 Qe 200 func9 rfl ntmps9 results9 rfl fun base w hb=>?_
  simp only[go_sem,simprocAttr]
  simp only[go_sem,simprocAttr,d0]
  refine Zv (fun k s=>(l.take k).all CM=true∧s=⟨[(8,Ks l),(9,Qb l.length),(10,Qb k)],[]⟩) l.length (s0:=⟨[(8,Ks l),(9,Qb l.length),(10,Qb 0)],[]⟩) (Qk.frame (by simp only[go_sem,simprocAttr])) ⟨by simp,rfl⟩ ?_
  rintro k s hk ⟨Z9,rfl⟩
  by_cases Qn:k<l.length
  ·have dk:=decide_eq_true Qn
   have e1:=getD_take l default k Qn
   obtain⟨x,hx⟩:∃x,x=l.getD k default:=⟨_,rfl⟩
   rw[← hx]at e1
   refine Qc hb ?_
   simp only[go_sem,simprocAttr,dk,Qn,← hx]
   by_cases h40:x.changes.length≤40
   ·have d40:decide ((40:Int)<(x.changes.length:Int))=false:=decide_eq_false (by omega)
    simp only[go_sem,simprocAttr,d40]
    refine⟨Qn,_,Qk.to 0 (by (simp only[go_sem,simprocAttr,JX (show k<4611686018427387904 by omega)])<;>simp),?_,rfl⟩
    rw[e1,List.all_append,Z9]
    simp [CM,h40]
   ·have d40:decide ((40:Int)<(x.changes.length:Int))=true:=decide_eq_true (by omega)
    simp only[go_sem,simprocAttr,d40]
    have:l.all CM=false:=by
     rw[List.all_eq_false]
     exact⟨x,by rw[hx];exact jo l default k Qn,by simp [CM];omega⟩
    rw[this]
  ·have dk:=decide_eq_false Qn
   have ZE:k=l.length:=by omega
   refine Qc hb ?_
   simp only[go_sem,simprocAttr,dk]
   refine Qc hb ?_
   simp only[go_sem,simprocAttr]
   rw[ZE,List.take_length]at Z9
   rw[Z9]
 ·have d0:decide ((60:Int)<(l.length:Int))=true:=decide_eq_true (by omega)
  have e0:zW l=false:=by unfold zW;rw[decide_eq_false Iz];rfl
  rw[e0]
  refine Zb 0 Qe 200 func9 rfl ntmps9 results9 rfl fun base w hb=>?_
  simp only[go_sem,simprocAttr]
  simp only[go_sem,simprocAttr,d0]
def IA:List It→Option It
 | []=>none
 | x::l=>match IA l with
  | none=>some x
  | some y=>some (XR x y)
theorem Qbb:∀L:List It,zD (IA L) L
 | []=>rfl
 | x::l=>by
  have h:=Qbb l
  unfold IA
  cases hb:IA l with
  | none=>
   rw[hb]at h
   have h2:l=[]:=h
   subst h2
   exact J4.one x
  | some y=>
   rw[hb]at h
   exact J4.join (J4.one x) h
def Qbc (M:Qh) (now:Nat):Option It:=IA (M.Lv.filter fun x=>decide (x.ka≤min now 9223372036854775807))
theorem OW (M:Qh) (now:Nat):qZ M now (Qbc M now):=Qbb _
def qp (M:Qh) (now:Nat):Option (Int × Bool):=if qd M now=true then JW (Zn M now) now (Qbc (Zn M now) now) else none
def takeN (M:Qh) (now:Nat):Qh:=match qp M now with
 | none=>Zn M now
 | some x=>XB (Zn M now) x.1 x.2
def jU (M:Qh) (now:Nat):Int:=match qp M now with
 | none=>0
 | some x=>x.1
def CO (M:Qh) (now:Nat):Pk:=match qp M now with
 | none=>default
 | some x=>(Qx M x.1).q.l.headD default
def IB (M:Qh) (now:Nat):Bool:=match qp M now with
 | none=>false
 | some x=>x.2
def XC (M:Qh) (now:Nat):Bool:=(qp M now).isSome
theorem Qq9 {M M':Qh} {now:Nat} {d:D} (h:Ib M now d M'):M'=takeN M now∧d=.tup [.agg (vw (jU M now) (CO M now) (IB M now)),QN (XC M now)]:=by
 rcases h with ⟨h1,rfl,rfl⟩|⟨h1,o,h2,h3⟩
 ·have e:qp M' now=none:=by unfold qp;rw[if_neg (by rw[h1];exact Bool.false_ne_true)]
  have e2:Zn M' now=M':=by unfold Zn;rw[if_neg (by rw[h1];exact Bool.false_ne_true)]
  unfold takeN jU CO IB XC
  rw[e]
  exact⟨e2.symm,rfl⟩
 ·have e:qp M now=JW (Zn M now) now o:=by unfold qp;rw[if_pos h1,(OW (Zn M now) now).uniq h2]
  unfold takeN jU CO IB XC
  rw[e]
  cases hp:JW (Zn M now) now o with
  | none=>
   rw[hp]at h3
   exact⟨h3.2,h3.1⟩
  | some x=>
   rw[hp]at h3
   exact⟨h3.2,h3.1⟩
structure J7 (own:Nat→Tag) (h:List Ob) (p:Nat) (M:Qh):Prop where
 ex:∃L,Q7 own h p L M
 I:Qy M
 V:Inv M
 K:vz M.lk
theorem J7.step {own own':Nat→Tag} {h h':List Ob} {p:Nat} {M:Qh} (C:J7 own h p M) (e:∀l,l<h.length→Live (own l)→own' l=own l∧h'[l]? = h[l]?):J7 own' h' p M:=
 ⟨C.ex.imp fun _ c=>c.step e,C.I,C.V,C.K⟩
theorem J7.VP {own:Nat→Tag} {h:List Ob} {p:Nat} {M:Qh} (C:J7 own h p M) (g:List Ob):J7 (Za own h .no) (h++g) p M:=C.step fun l hl _=>⟨qc hl,QU hl⟩
theorem Qbd (l:List Int) (M:Qh):(JT M l).lk=M.lk:=(ES l M).2.2.2.2.2.2.2.2
theorem Qra (M:Qh) (id:Int):(Xf M id).lk=M.lk:=by
 unfold Xf
 split
 ·exact(EZ _ _).2.2.1
 ·rfl
theorem Qrb (M:Qh) (id:Int) (r:Bool):(XB M id r).lk=M.lk:=by
 unfold XB
 dsimp only
 rw[Qbd]
 have h1:(Vn ((up M.T id).foldl (Ki ((Qx M id).q.l.headD default).len.toNat) (Wc M id)) id ((Qx M id).q.l.headD default).len r).lk=M.lk:=by
  rw[(Ov _ _ _ _).2.2.2.1,(H9 _ _ _).2.2.2.1];rfl
 split
 ·rw[Qra,h1]
 ·exact h1
theorem Qrc (M:Qh) (now:Nat) (id:Int) (head:Int):(qf M now id head).lk=M.lk:=by
 unfold qf
 split
 ·rw[Qbd,(EW _ _ _).2.2.2.1]
  exact Oh.2.2.2
 ·exact Oh.2.2.2
theorem aM (M:Qh) (now:Nat):(Zn M now).lk=M.lk:=(uP M now).1
theorem Qrd (M:Qh) (now:Nat) (cls:Int) (x:Pk):(Kj M now cls x).lk=M.lk:=by
 unfold Kj
 split
 ·rfl
 ·split
  ·split
   ·rw[Qrc];rfl
   ·rfl
  ·rfl
theorem Qre (M:Qh) (now:Nat) (cls:Int) (x:Pk):(VS M now cls x).lk=M.lk:=by
 unfold VS
 split
 ·rw[Qrd,aM]
 ·rfl
theorem Qrf (M:Qh) (now:Nat):(takeN M now).lk=M.lk:=by
 unfold takeN
 split
 ·exact aM M now
 ·rw[Qrb,aM]
theorem Qrg (M:Qh) (b:Bool) (l:List ZN):(VE M b l).lk=M.lk:=by
 unfold VE
 split
 ·exact(Fc _ _).2.2.1
 ·rfl
theorem Inv.pick {M:Qh} (I:Qy M) (V:Inv M) {now:Nat} {o:Option It} (ho:qZ M now o) {id:Int} {r:Bool} (hp:JW M now o=some (id,r)):∃n,Qg M.N id=some n∧n.c.leaf=true∧n.q.l≠[]∧(1<QI n.c.ls→id∈M.A):=Good.UJ I V.Fj now o id r ho hp
theorem Inv.takeN {M:Qh} (I:Qy M) (V:Inv M) (now:Nat):Inv (takeN M now):=by
 unfold X.takeN
 cases hp:qp M now with
 | none=>exact V.told now
 | some x=>
  unfold qp at hp
  split at hp
  ·obtain⟨n,h1,h2,h3,_⟩:=(V.told now).pick (yr I now) (OW _ _) hp
   exact(V.told now).take (yr I now) h1 h2 h3 x.2
  ·cases hp
theorem Inv.VE {M:Qh} (I:Qy M) (V:Inv M) (b:Bool) (l:List ZN) (hc:∀c∈l,ZN.Ok c):Inv (VE M b l):=by
 unfold X.VE
 split
 ·rename_i h
  have h2:ql M (Wq M.T l) b=false:=by
   unfold YE at h
   split at h
   ·rename_i h3
    exact absurd h h3
   ·split at h
    ·cases h
    ·rename_i h4
     simpa using h4
  obtain⟨h3,h4⟩:=tV I.tree I.wK hc
  exact V.change I h3 h4 h2
 ·exact V
theorem aN {c:Cf}:CN c=true↔vz c:=by
 unfold CN
 simp only[Bool.and_eq_true,decide_eq_true_eq]
 exact⟨fun h=>⟨h.1.1.1,h.1.1.2,h.1.2,h.2⟩,fun h=>⟨⟨⟨h.t1,h.t2⟩,h.l1⟩,h.l2⟩⟩
def c6:Cf:=⟨1,100⟩
def IC (id m:Int):ZN:=⟨1,⟨id,0,true,⟨0,0,0⟩,⟨m,0,m⟩,⟨0,0,0⟩,3,300⟩⟩
def Fq:List ZN:=[IC 1 65536,IC 2 131072]
def T6:List Qj:=[(IC 1 65536).cls,(IC 2 131072).cls]
def Qbe (L:List Int) (M:Qh) (T2:List Qj):Qh:=
 let D:=L.foldl (Z2 T2) { M with T:=T2 }
 let M1:Qh:={ D with N:=T2.map fun c=>Qx D c.iD,To:=T2,A:=[] }
 { M1 with A:=(J6 M1).foldl (qm T2) [] }
theorem Qri (M:Qh) (T2:List Qj):jR M T2=Qbe (Je M.T T2) M T2:=rfl
theorem Qbf:Wq [] Fq=T6:=by kernel_rfl
theorem Qbg:Je [] T6=[1,2]:=by
 unfold Je
 have h:zM [] T6=[1,2]:=by kernel_rfl
 rw[h,pc (List.Perm.refl [1,2]) (by simp)]
 rfl
def S6:Qh:=Qbe [1,2] (M0 c6) T6
theorem Qrj:ql (M0 c6) T6 true=false:=by
 unfold ql Oa
 have h:(M0 c6).T=[]:=rfl
 rw[h,Qbg]
 decide +kernel
theorem Qbh:YE (M0 c6) true Fq=0:=by
 unfold YE
 have h:(M0 c6).T=[]:=rfl
 rw[h,Qbf,Qrj]
 decide +kernel
theorem Qrk:VE (M0 c6) true Fq=S6:=by
 unfold VE
 rw[if_pos Qbh,show (M0 c6).T=[] from rfl,Qbf,Qri,show (M0 c6).T=[] from rfl,Qbg]
 rfl
def CP (i:Int):Pk:=⟨i,100,0,0,0,0⟩
def ID:Nat→Qh
 | 0=>S6
 | i+1=>VS (VS (ID i) 0 1 (CP i)) 0 2 (CP (i+3))
theorem Qrl:∀i,i<3→qi (ID i) 0 1 (CP i)=0∧qi (VS (ID i) 0 1 (CP i)) 0 2 (CP (i+3))=0:=by decide +kernel
def CQ:Nat→Qh
 | 0=>ID 3
 | j+1=>takeN (CQ j) 0
def aO:List Int:=[1,2,2,1,2,1]
theorem Qrm:∀j,j<6→XC (CQ j) 0=true∧jU (CQ j) 0=aO.getD j 0∧IB (CQ j) 0=false:=by decide +kernel
def OX:Qh:=takeN (CQ 6) 0
theorem Qrn:XC (CQ 6) 0=false∧qn OX=9223372036854775808∧OX.acc=600∧qi OX 1 1 ⟨0,101,0,0,0,0⟩=26:=by decide +kernel
section
variable {own:Nat→Tag} {h:List Ob} {p:Nat} {M:Qh} (C:J7 own h p M)
include C
theorem Fs (now:Nat) (Vo:now<18446744073709551616) (cls:Int) (x:Pk) :
  QH prog 16 h [.ptr p 0 0 0,u64 now,Qb cls,.agg x.cells] (fun d h'=>d=Qb (qi M now cls x)∧∃own',J7 own' h' p (VS M now cls x)∧QZ own h own' h'):=by
 obtain⟨L,c⟩:=C.ex
 refine QH.mono (Qo1 c C.I C.K now Vo cls x (Good.hA C.I C.V.Fj cls)) ?_
 rintro d h' ⟨own',M',c',I',D,hd,rfl⟩
 exact⟨hd,own',⟨⟨L,c'⟩,I',C.V.VS C.I now Vo cls x,by rw[Qre];exact C.K⟩,D⟩
theorem Ft (now:Nat) :
  QH prog 14 h [.ptr p 0 0 0,u64 now] (fun d h'=>d=.tup [.agg (vw (jU M now) (CO M now) (IB M now)),QN (XC M now)]∧∃own',J7 own' h' p (takeN M now)∧QZ own h own' h'):=by
 obtain⟨L,c⟩:=C.ex
 refine QH.mono (QoJ c C.I now fun o id r ho hp=>?_) ?_
 ·obtain⟨n,h1,h2,h3,h4⟩:=(C.V.told now).pick (yr C.I now) ho hp
  exact⟨n,by rw[← (E8 M now).1];exact h1,h2,h3,by rw[← (E8 M now).2.2];exact h4⟩
 ·rintro d h' ⟨own',M',c',I',D,hR⟩
  obtain⟨rfl,hd⟩:=Qq9 hR
  exact⟨hd,own',⟨⟨L,c'⟩,I',C.V.takeN C.I now,by rw[Qrf];exact C.K⟩,D⟩
theorem OY (b:Bool) (l:List ZN) (hc:∀c∈l,ZN.Ok c) (hl:l.length<1000000) :
  QH prog 17 h [.ptr p 0 0 0,QN b,HM l] (fun d h'=>d=.tup [Qb (yv M l),Qb (YE M b l)]∧∃own',J7 own' h' p (VE M b l)∧QZ own h own' h'):=by
 obtain⟨L,c⟩:=C.ex
 refine QH.mono (QpY c C.I C.K b l hc hl (Good.jS C.I C.V.Fj) (Good.AS C.I C.V.Fj)) ?_
 rintro d h' ⟨own',L',M',c',I',D,hd,rfl⟩
 exact⟨hd,own',⟨⟨L',c'⟩,I',C.V.VE C.I b l hc,by rw[Qrg];exact C.K⟩,D⟩
theorem OZ:QP prog 13 h [.ptr p 0 0 0] (fun d=>d=u64 (qn M)):=by
 obtain⟨L,c⟩:=C.ex
 exact Qqn c.ro C.I
theorem aP:QP prog 24 h [.ptr p 0 0 0] (fun d=>d=u64 M.acc):=by
 obtain⟨L,c⟩:=C.ex
 exact Qqm c.ro
end
theorem aQ (own:Nat→Tag) (h:List Ob) {c:Cf} (K:vz c) :
  QH prog 15 h [.agg c.cells] (fun d h'=>∃own' p,d=.tup [.ptr p 0 0 0,Qb 0]∧J7 own' h' p (M0 c)∧QZ own h own' h'):=by
 refine QH.mono (Qpe (own:=own) c) ?_
 rintro d h' (⟨_,own',L,p,hd,c',I',D⟩|⟨hk,_⟩)
 ·exact⟨own',p,hd,⟨⟨L,c'⟩,I',QqD c,K⟩,D⟩
 ·exact absurd K hk
def CU (M:Qh) (a:Act):Qh:=if a.kind=0 then takeN M a.now.toNat else if a.kind=1 then VS M a.now.toNat a.cls a.Xr else VE M a.idle a.changes
def runN (M:Qh) (l:List Act):Qh:=l.foldl CU M
theorem Qro {M:Qh} {l:List Act} {k:Nat} (hk:k<l.length):runN M (l.take (k+1))=CU (runN M (l.take k)) (l.getD k default):=by
 unfold runN
 rw[getD_take l default k hk,List.foldl_append]
 rfl
theorem Act.Ok.now {a:Act} (h:a.Ok):0≤a.now∧a.now<18446744073709551616:=by have:=wf_u64 h.2.1;omega
theorem Act.Ok.aR {a:Act} (h:a.Ok):∀c∈a.changes,ZN.Ok c:=h.2.2.2.2.2.1.2
@[go_sem] def wU (a:Act):Ob:=⟨.one,0,11,1,fun _=>a.cells⟩
theorem Qbi {l:List Act} (h:zW l=true) {a:Act} (ha:a∈l):a.changes.length<1000000:=by
 unfold zW CM at h
 simp only[Bool.and_eq_true,List.all_eq_true,decide_eq_true_eq]at h
 have:=h.2 a ha
 omega
theorem O1 {l:List Act} (h:zW l=true):l.length≤60:=by
 unfold zW at h
 simp only[Bool.and_eq_true,decide_eq_true_eq]at h
 exact h.1
structure CV (own:Nat→Tag) (h:List Ob) (p:Nat) (M:Qh) (l:List Act) (k:Nat) (s:St):Prop where
 ex:∃own' H,J7 own' H p (runN M (l.take k))∧QZ own h own' H∧s=⟨[(6,.ptr p 0 0 0),(7,Qb 0),(15,Ks l),(16,Qb l.length),(17,Qb k)],H⟩
theorem CV.of {own:Nat→Tag} {h:List Ob} {p:Nat} {M:Qh} {l:List Act} {k:Nat} {own':Nat→Tag} {H:List Ob} (C:J7 own' H p (runN M (l.take k))) (D:QZ own h own' H) :
  CV own h p M l k ⟨[(6,.ptr p 0 0 0),(7,Qb 0),(15,Ks l),(16,Qb l.length),(17,Qb k)],H⟩:=⟨⟨own',H,C,D,rfl⟩⟩
theorem Qbj (id:Int) (m:Int):Q8 prog 31 [Qb id,.raw (.int .u64 m)] (Ql (.agg (IC id m).cells)):=by
 refine Zb 0 Qe 200 func31 rfl ntmps31 results31 rfl fun base w hb=>?_
 simp only[go_sem,simprocAttr]
 rfl
def aT:Nat→List D:=fun k=>List.take 1 (List.drop (k*1) [Qb 1,Qb 2,Qb 2,Qb 1,Qb 2,Qb 1])
theorem Qrp:∀k,k<6→aT k=[Qb (aO.getD k 0)]:=by
 intro k hk
 match k,hk with
 | 0,_=>rfl
 | 1,_=>rfl
 | 2,_=>rfl
 | 3,_=>rfl
 | 4,_=>rfl
 | 5,_=>rfl
 | j+6,h=>exact absurd (show j+6<6 from h) (by omega)
theorem q6:Q8 prog 11 [] (Ql (QN true)):=by
 refine Zb 0 Qe 200 func11 rfl ntmps11 results11 rfl fun base w hb=>?_
 simp only[go_sem,simprocAttr]
 have K6:vz c6:=⟨by decide,by decide,by decide,by decide⟩
 refine QT hb Rr rfl ?_ (aQ (fun _=>.no) [] K6) rfl fun d h1 hR=>?_
 ·simp only[go_sem,simprocAttr,Qa,c6]
 obtain⟨JL,p,rfl,C1,D1⟩:=hR
 refine Qc hb ?_
 simp only[go_sem,simprocAttr,Qa]
 refine QE hb nX rfl ?_ (Qbj 1 65536) (Ql.flat rfl) rfl fun d h hR=>?_
 ·simp only[go_sem,simprocAttr,Qa]
 obtain⟨rfl,rfl⟩:=hR
 refine Qc hb ?_
 simp only[go_sem,simprocAttr,Qa]
 refine QE hb nX rfl ?_ (Qbj 2 131072) (Ql.flat rfl) rfl fun d h hR=>?_
 ·simp only[go_sem,simprocAttr,Qa]
 obtain⟨rfl,rfl⟩:=hR
 refine Qc hb ?_
 simp only[go_sem,simprocAttr,Qa]
 refine Mx (Qk.Nt rfl (fun l o hl=>by simp at hl) 26 h1.length (Nat.zero_le _) rfl (Kc rfl) (Nat.le_refl 2) rfl ?_) ?_
 ·intro i hi
  match i,hi with
  | 0,_=>rfl
  | 1,_=>rfl
  | j+2,h=>exact absurd (show j+2<2 from h) (by omega)
 simp only[go_sem,simprocAttr,Qa]
 have jM:∀c∈Fq,ZN.Ok c:=by
  intro c hc
  simp only[Fq,List.mem_cons,List.not_mem_nil,or_false]at hc
  rcases hc with rfl|rfl<;>exact⟨by decide,⟨by decide,by decide,trivial,⟨by decide,by decide,by decide,trivial⟩,⟨by decide,by decide,by decide,trivial⟩,⟨by decide,by decide,by decide,trivial⟩,by decide,by decide,trivial⟩,trivial⟩
 refine QT hb MI rfl ?_ (OY (C1.VP [_]) true Fq jM (by decide)) rfl fun d h2 hR=>?_
 ·simp only[go_sem,simprocAttr,Qa]
  refine⟨rfl,fun i hi=>?_⟩
  match i,hi with
  | 0,_=>rfl
  | 1,_=>rfl
  | j+2,h=>exact absurd (show j+2<2 from h) (by omega)
 obtain⟨rfl,Kr,C2,D2⟩:=hR
 rw[show (M0 c6)=M0 c6 from rfl,Qrk]at C2
 rw[Qbh]
 refine Qc hb ?_
 simp only[go_sem,simprocAttr,Qa]
 refine Zv (fun k s=>∃own' H,J7 own' H p (ID k)∧s=⟨[(1,.ptr p 0 0 0),(2,Qb 0),(5,Qb 0),(30,Qb k)],H⟩) 3 (s0:=⟨[(1,.ptr p 0 0 0),(2,Qb 0),(5,Qb 0),(30,Qb 0)],h2⟩) (Qk.frame (by simp only[go_sem,simprocAttr])) ⟨Kr,h2,C2,rfl⟩ ?_
 rintro k _ hk ⟨WM,H,C3,rfl⟩
 by_cases Qn:k<3
 ·obtain⟨a1,a2⟩:=Qrl k Qn
  have dk:decide ((k:Int)<3)=true:=decide_eq_true (by omega)
  have w1:IntKind.u64.wrap (k:Int)=k:=oZ (by omega) (by omega)
  have w2:IntKind.i64.wrap ((k:Int)+3)=(k:Int)+3:=wrap64 (by omega) (by omega)
  have w3:IntKind.u64.wrap ((k:Int)+3)=(k:Int)+3:=oZ (by omega) (by omega)
  have Q3:=JX (show k<4611686018427387904 by omega)
  refine Qc hb ?_
  simp only[go_sem,simprocAttr,Qa,dk,w1]
  refine QT hb DS rfl ?_ (Fs C3 0 (by decide) 1 (CP k)) rfl fun d h3 hR=>?_
  ·simp only[go_sem,simprocAttr,Qa,w1]
   rfl
  rw[a1]at hR
  obtain⟨rfl,q4,C4,D4⟩:=hR
  refine Qc hb ?_
  simp only[go_sem,simprocAttr,Qa,w2,w3]
  refine QT hb DS rfl ?_ (Fs C4 0 (by decide) 2 (CP (k+3))) rfl fun d h4 hR=>?_
  ·simp only[go_sem,simprocAttr,Qa,w2,w3]
   rfl
  rw[a2]at hR
  obtain⟨rfl,zR,C5,D5⟩:=hR
  refine Qc hb ?_
  simp only[go_sem,simprocAttr,Qa]
  exact⟨Qn,_,Qk.frame (by simp only[go_sem,simprocAttr,Q3]),zR,_,C5,rfl⟩
 ·have ZE:k=3:=by omega
  have dk:decide ((k:Int)<3)=false:=decide_eq_false (by omega)
  subst ZE
  refine Qc hb ?_
  simp only[go_sem,simprocAttr,Qa]
  refine Qc hb ?_
  simp only[go_sem,simprocAttr,Qa]
  refine xu (Qk.Nt rfl (fun l o hl=>by simp at hl) 51 H.length (Nat.zero_le _) rfl (Kc rfl) (Nat.le_refl 6) rfl ?_) ?_
  ·intro i hi
   match i,hi with
   | 0,_=>rfl
   | 1,_=>rfl
   | 2,_=>rfl
   | 3,_=>rfl
   | 4,_=>rfl
   | 5,_=>rfl
   | j+6,h=>exact absurd (show j+6<6 from h) (by omega)
  simp only[go_sem,simprocAttr,Qa]
  have C4:=fun g=>C3.VP g
  refine Zv (fun k s=>∃own' H,J7 own' H p (CQ k)∧s=⟨[(1,.ptr p 0 0 0),(2,Qb 0),(5,Qb 0),(51,.imm 1 6 aT),(52,Qb 6),(53,Qb k)],H⟩) 6 (s0:=⟨[(1,.ptr p 0 0 0),(2,Qb 0),(5,Qb 0),(51,.imm 1 6 aT),(52,Qb 6),(53,Qb 0)],_⟩) (Qk.frame (by simp only[go_sem,simprocAttr];rfl)) ⟨_,_,C4 _,rfl⟩ ?_
  rintro k _ hk ⟨q4,H4,C4,rfl⟩
  by_cases Qn:k<6
  ·obtain⟨a1,a2,a3⟩:=Qrm k Qn
   have dk:decide ((k:Int)<6)=true:=decide_eq_true (by omega)
   have Q3:=JX (show k<4611686018427387904 by omega)
   have ZR:=Qrp k Qn
   obtain⟨id,QQ⟩:∃id,id=aO.getD k 0:=⟨_,rfl⟩
   rw[← QQ]at a2 ZR
   refine Qc hb ?_
   simp only[go_sem,simprocAttr,Qa,dk,Qn,ZR]
   refine⟨by omega,?_⟩
   refine QT hb DQ rfl ?_ (Ft C4 0) rfl fun d h5 hR=>?_
   ·simp only[go_sem,simprocAttr,Qa]
   rw[a1,a2,a3]at hR
   obtain⟨rfl,zR,C5,D5⟩:=hR
   have eid:(id != id)=false:=by simp
   refine Qc hb ?_
   simp only[go_sem,simprocAttr,Qa,eid]
   exact⟨Qn,_,Qk.frame (by simp only[go_sem,simprocAttr,Q3]),_,_,C5.VP _,rfl⟩
  ·have ZE:k=6:=by omega
   obtain⟨a1,a2,a3,a4⟩:=Qrn
   subst ZE
   refine Qc hb ?_
   simp only[go_sem,simprocAttr,Qa]
   refine Qc hb ?_
   simp only[go_sem,simprocAttr,Qa]
   refine QT hb DQ rfl ?_ (Ft C4 0) rfl fun d h5 hR=>?_
   ·simp only[go_sem,simprocAttr,Qa]
   rw[a1]at hR
   obtain⟨rfl,zR,C5,D5⟩:=hR
   have C6:∀g,J7 (Za zR h5 .no) (h5++g) p OX:=fun g=>C5.VP g
   have hD:∀g,QP prog 13 (h5++g) [.ptr p 0 0 0] (fun d=>d=.raw (.int .u64 9223372036854775808)):=fun g=>by
    have:=OZ (C6 g)
    rw[a2]at this
    exact this
   have hE:∀g,QP prog 24 (h5++g) [.ptr p 0 0 0] (fun d=>d=.raw (.int .u64 600)):=fun g=>by
    have:=aP (C6 g)
    rw[a3]at this
    exact this
   refine Qc hb ?_
   simp only[go_sem,simprocAttr,Qa]
   refine QK hb MH rfl ?_ (hD _) rfl fun d hR=>?_
   ·simp only[go_sem,simprocAttr,Qa]
   subst hR
   refine Qc hb ?_
   simp only[go_sem,simprocAttr,Qa]
   refine QK hb Rv rfl ?_ (hE _) rfl fun d hR=>?_
   ·simp only[go_sem,simprocAttr,Qa]
   subst hR
   refine Qc hb ?_
   simp only[go_sem,simprocAttr,Qa]
   refine QT hb DS rfl ?_ (Fs (C6 _) 1 (by decide) 1 ⟨0,101,0,0,0,0⟩) rfl fun d h6 hR=>?_
   ·simp only[go_sem,simprocAttr,Qa]
   rw[a4]at hR
   obtain⟨rfl,Xh,C7,D7⟩:=hR
   refine Qc hb ?_
   simp only[go_sem,simprocAttr,Qa]
end Go.Fg.X
namespace Go.Fg
open Go.RowKit (Below)
theorem Qk.QrD {w0:Start} {fr:List (Nat × D)} {h:List Ob} (t sz:Nat) (ht:get fr t=.nil) :
  Qk w0 ⟨fr,h⟩ ⟨put fr t (.ref h.length 0 0 0),h++[(⟨.arr,0,sz,0,fun _=>[]⟩:Ob)]⟩:=by
 intro Z z base nt pl a w r b
 have hlen:pl.length=h.length:=r.o.len
 have R1:=r.o.wV ⟨.arr,0,sz,0,fun _=>[]⟩ rfl
 have T1:Tr h pl w (h++[(⟨.arr,0,sz,0,fun _=>[]⟩:Ob)]) (pl++[none]) w:=Tr.push r.o (fun _ _=>rfl) _ _ (by intro b q e;simp at e)
 have hph:(h++[(⟨.arr,0,sz,0,fun _=>[]⟩:Ob)])[h.length]? = some ⟨.arr,0,sz,0,fun _=>[]⟩:=by simp
 have k2:=r.fr t
 rw[show get (St.fr ⟨fr,h⟩) t=.nil from ht]at k2
 obtain⟨a0,hv⟩:=yD k2
 have r2:Rel Z base nt ⟨fr,h++[⟨.arr,0,sz,0,fun _=>[]⟩]⟩ (pl++[none]) a w:=⟨r.nt,r.defers,fun u=>(r.fr u).tr T1,R1⟩
 refine⟨pl++[none],r2.tell (t:=t) ?_,b.step T1 (Below.refl _ _)⟩
 rw[hv]
 refine .ref _ _ _ _ ⟨.arr,0,sz,0,fun _=>[]⟩ none a0 0 hph ?_ rfl (Nat.le_refl _) (fun _=>.inl ⟨rfl,rfl⟩)
 rw[← hlen];simp
end Go.Fg
namespace Go.Fg.X
open Go.Proofs Go.Fg
open Go.Proofs.Tryz
end Go.Fg.X
