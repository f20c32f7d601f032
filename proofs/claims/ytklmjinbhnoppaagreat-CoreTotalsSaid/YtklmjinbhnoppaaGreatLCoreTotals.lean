/- The statement CoreTotals is proved. No conditions. -/
import Derived.Test.YtklmjinbhnoppaaGreatGO2
import Derived.Test.YtklmjinbhnoppaaGreatRows
set_option maxRecDepth 100000
set_option maxHeartbeats 0
set_option linter.unusedVariables false
set_option linter.unusedSimpArgs false
set_option linter.unusedSectionVars false
namespace Go.Fg.X
open Go.Proofs Go.Fg
open Go.Proofs.Tryz
def WU (n:Nd) (a:Bool) (f:Nat):List D:=n.c.cells++(QN a::u64 n.ZM::(n.du.cells++(n.sh.cells++(n.cp.cells++(u64 f::n.q.Hn)))))
section
variable (n:Nd) (a:Bool) (f:Nat)
@[go_sem] theorem QvK:(WU n a f).length=67:=rfl
@[go_sem] theorem QvL:(WU n a f).all D.JU=true:=rfl
@[go_sem] theorem QvM:(List.drop 15 (WU n a f)).getD 0 D.undef=u64 n.ZM:=rfl
@[go_sem] theorem QvN:(List.drop 2 (WU n a f)).getD 0 D.undef=QN n.c.leaf:=rfl
@[go_sem] theorem QvP:(List.drop 65 (WU n a f)).getD 0 D.undef=u64 n.q.bo:=rfl
end
@[go_sem] def QbE (n:Nd) (a:Bool) (f:Nat):Ob:=⟨.one,0,67,1,fun _=>WU n a f⟩
theorem QbA {own:Nat→Tag} {h:List Ob} {p:Nat} {M:Qh} (C:J7 own h p M) {id:Int} {n:Nd} (hn:Qg M.N id=some n):QP prog 22 h [.ptr p 0 0 0,Qb id] (fun d=>d=.tup [.agg (WU n (ZG M id) (KD M id n)),Qb 0]):=by
 obtain⟨L,c⟩:=C.ex
 exact Qqs c.ro C.I hn (C.V.jT id n hn)
theorem QbB {own:Nat→Tag} {h:List Ob} {p:Nat} {M:Qh} (C:J7 own h p M):QH prog 20 h [.ptr p 0 0 0] (fun d h'=>d=.ptr (h.length+1) 0 0 0∧Kz h' (h.length+1) M.T∧∃g,h'=h++g):=by
 obtain⟨L,c⟩:=C.ex
 refine QH.mono (Qqo c) ?_
 rintro d h' ⟨h1,h2,g,h3,_⟩
 exact⟨h1,h2.toR,g,h3⟩
theorem QbC {h:List Ob} {t:Nat} {T:List Qj} (R:Kz h t T) (I:JD T):QP prog 21 h [.ptr t 0 0 0] (fun d=>d=ints (T.map (·.iD))):=NA R (by have:=I.len;omega)
def Qai (M:Qh) (l:List Int):Nat:=(l.map fun j=>(Qx M j).ZM).sum
structure Qad (M:Qh):Prop where
 leaf:∀id n,Qg M.N id=some n→n.c.leaf=true→n.ZM=n.q.bo
 inner:∀id n,Qg M.N id=some n→n.c.leaf=false→n.ZM=Vf (Qai M (KZ M.T id))
def Qae (n:Nd):Qj × Nat × Nat:=(n.c,n.ZM,n.q.bo)
theorem QuB {α:Type} {key:Nd→α} {M M':Qh} {id:Int} (h:(Qg M'.N id).map key=(Qg M.N id).map key):key (Qx M' id)=key (Qx M id):=by
 unfold Qx
 cases h1:Qg M.N id with
 | none=>
  rw[h1,Option.map_none,Option.map_eq_none_iff]at h
  rw[h]
 | some n=>
  rw[h1]at h
  obtain⟨m,h2,h3⟩:=Option.map_eq_some_iff.1 h
  rw[h2]
  exact h3
theorem QuC {M M':Qh} (hN:∀id,(Qg M'.N id).map Qae=(Qg M.N id).map Qae) (l:List Int):Qai M' l=Qai M l:=by
 unfold Qai
 congr 1
 refine List.map_congr_left fun j _=>?_
 have h:(Qx M' j).ZM=(Qae (Qx M' j)).2.1:=rfl
 rw[h,QuB (hN j)]
 rfl
theorem Qad.of {M M':Qh} (V:Qad M) (hT:M'.T=M.T) (hN:∀id,(Qg M'.N id).map Qae=(Qg M.N id).map Qae):Qad M':=by
 refine⟨fun id n hn hl=>?_,fun id n hn hl=>?_⟩
 ·obtain⟨m,h1,h2⟩:=wS (hN id).symm hn
  simp only[Qae,Prod.mk.injEq]at h2
  rw[← h2.2.1,← h2.2.2]
  exact V.leaf id m h1 (by rw[h2.1];exact hl)
 ·obtain⟨m,h1,h2⟩:=wS (hN id).symm hn
  simp only[Qae,Prod.mk.injEq]at h2
  rw[← h2.2.1,hT,QuC hN]
  exact V.inner id m h1 (by rw[h2.1];exact hl)
theorem QuD (M:Qh) (now:Nat) (id:Int):(Qg (Zn M now).N id).map Qae=(Qg M.N id).map Qae:=by rw[(E8 M now).1]
theorem QuE (M:Qh) (now:Nat) (id:Int) (head:Int) (j:Int):(Qg (qf M now id head).N j).map Qae=(Qg M.N j).map Qae:=by
 have h1:(Qg (Jl M now id head).N j).map Qae=(Qg M.N j).map Qae:=by
  rw[Qay]
  split
  ·cases Qg M.N j<;>rfl
  ·rfl
 unfold qf
 split
 ·rw[(ES _ _).1,zV (key:=Qae) (fun M j id=>Qaz now (fun _ _=>rfl) M j id)]
  exact h1
 ·exact h1
theorem QuF (M:Qh) (now:Nat) (id:Int) (head:Int):(qf M now id head).T=M.T:=by
 unfold qf
 split
 ·rw[(ES _ _).2.1,(EW _ _ _).1]
  exact Oh.1
 ·exact Oh.1
theorem Qad.put {M:Qh} (V:Qad M) (now:Nat) (cls:Int) (x:Pk):Qad (Kj M now cls x):=by
 have push:∀j,(Qg (JA M cls x).N j).map Qae=(Qg M.N j).map Qae:=fun j=>by
  rw[CJ]
  split
  ·rename_i e
   subst e
   cases hn:Qg M.N j with
   | none=>rfl
   | some n=>
    have Zy:Qx M j=n:=by unfold Qx;rw[hn];rfl
    rw[Zy]
    simp only[Option.map_some,Qae,Option.some.injEq,Prod.mk.injEq,true_and]
    unfold Kh
    split<;>rfl
  ·rfl
 unfold Kj
 split
 ·exact V.of rfl push
 ·split
  ·split
   ·exact V.of (QuF _ _ _ _) fun j=>(QuE _ _ _ _ j).trans (push j)
   ·exact V.of rfl push
  ·exact V
theorem Qad.told {M:Qh} (V:Qad M) (now:Nat):Qad (Zn M now):=V.of (E8 M now).2.1 (QuD M now)
theorem Qad.VS {M:Qh} (V:Qad M) (now:Nat) (cls:Int) (x:Pk):Qad (VS M now cls x):=by
 unfold X.VS
 split
 ·exact(V.told now).put now cls x
 ·exact V
theorem Qdf {f f':Int→Nat} {L:Nat} {q:Int}:∀{l:List Int},l.Nodup→q∈l→f' q=Vf (f q+L)→(∀j∈l,j≠q→f' j=f j)→Vf (l.map f').sum=Vf ((l.map f).sum+L)
 | [],_,h,_,_=>by cases h
 | a::l,hn,h,h1,h2=>by
  rw[List.nodup_cons]at hn
  simp only[List.map_cons,List.sum_cons]
  by_cases e:a=q
  ·subst e
   have e2:l.map f'=l.map f:=List.map_congr_left fun j hj=>h2 j (List.mem_cons_of_mem _ hj) fun e=>hn.1 (e▸hj)
   rw[h1,e2]
   unfold Vf
   omega
  ·have h3:=Qdf hn.2 ((List.mem_cons.1 h).resolve_left fun e2=>e e2.symm) h1 fun j hj=>h2 j (List.mem_cons_of_mem _ hj)
   rw[h2 a List.mem_cons_self e]
   unfold Vf at h3 ⊢
   omega
theorem QuG {T:List Qj} (hr:KX T) (p:Int):(KZ T p).Nodup:=by
 unfold KZ
 have h:T.Pairwise (fun a b=>a.iD<b.iD):=hr
 rw[List.nodup_iff_pairwise_ne,List.pairwise_map]
 exact(h.filter _).imp fun J3=>by omega
theorem QuH (M:Qh) (id:Int) (r:Bool):(XB M id r).T=M.T:=by
 unfold XB
 dsimp only
 rw[(ES _ _).2.1]
 have h1:(Vn ((up M.T id).foldl (Ki ((Qx M id).q.l.headD default).len.toNat) (Wc M id)) id ((Qx M id).q.l.headD default).len r).T=M.T:=by
  rw[(Ov _ _ _ _).1,(H9 _ _ _).1];rfl
 split
 ·unfold Xf
  split
  ·rw[(EZ _ _).1];exact h1
  ·exact h1
 ·exact h1
theorem Qdh (len:Nat):∀(l:List Int) (M:Qh) (j:Int),l.Nodup→j∈l→Qg (l.foldl (Ki len) M).N j=(Qg M.N j).map (wN len)
 | [],_,_,_,h=>by cases h
 | a::l,M,j,hn,h=>by
  rw[List.nodup_cons]at hn
  rw[List.foldl_cons]
  by_cases e:j=a
  ·subst e
   rw[ON (QqO len) l _ j hn.1]
   exact(Wu (f:=wN len) (fun _=>rfl) j).trans (if_pos rfl)
  ·rw[Qdh len l _ j hn.2 ((List.mem_cons.1 h).resolve_left e),QqO len M a j e]
theorem QuI {M:Qh} (I:Qy M) {id:Int} {n:Nd} (hn:Qg M.N id=some n) (r:Bool) (j:Int) :
  (Qg (XB M id r).N j).map Qae=(Qg M.N j).map fun m=>(m.c,if j∈up M.T id then Vf (m.ZM+(n.q.l.headD default).len.toNat) else m.ZM,if j=id then Vf (m.q.bo+(n.q.l.headD default).len.toNat) else m.q.bo):=by
 have Zy:Qx M id=n:=by unfold Qx;rw[hn];rfl
 unfold XB
 dsimp only
 rw[(ES _ _).1,Zy]
 generalize hL:(n.q.l.headD default).len=len
 have h2:(Qg (Vn ((up M.T id).foldl (Ki len.toNat) (Wc M id)) id len r).N j).map Qae=(Qg ((up M.T id).foldl (Ki len.toNat) (Wc M id)).N j).map Qae:=by
  rw[QaQ]
  split
  ·cases Qg ((up M.T id).foldl (Ki len.toNat) (Wc M id)).N j<;>rfl
  ·rfl
 have Fl:Qg (Wc M id).N j=if j=id then (Qg M.N j).map (fun n=>{ n with q:=Vg (Qx M id).q }) else Qg M.N j:=
  Wu (f:=fun n:Nd=>{ n with q:=Vg (Qx M id).q }) (fun _=>rfl) j
 have h3:(Qg ((up M.T id).foldl (Ki len.toNat) (Wc M id)).N j).map Qae=(Qg M.N j).map fun m=>(m.c,if j∈up M.T id then Vf (m.ZM+len.toNat) else m.ZM,if j=id then Vf (m.q.bo+len.toNat) else m.q.bo):=by
  have Nh:Qg (Wc M id).N j=(Qg M.N j).map fun m=>if j=id then { m with q:=Vg n.q } else m:=by
   rw[Fl,Zy]
   by_cases e:j=id<;>simp [e]
  by_cases hj:j∈up M.T id
  ·rw[Qdh len.toNat _ _ j (GR I.tree id) hj,Nh,Option.map_map,Option.map_map]
   by_cases e:j=id
   ·rw[e,hn]
    have hs:id∈up M.T id:=e▸hj
    simp only[Option.map_some,Function.comp_apply,if_pos rfl,if_pos hs,Qae,wN]
    have:(Vg n.q).bo=Vf (n.q.bo+len.toNat):=by unfold Vg;rw[← hL]
    simp only[if_true]
    rw[this]
   ·congr 1
    funext m
    simp only[Function.comp_apply,if_neg e,if_pos hj,Qae,wN]
  ·rw[ON (QqO len.toNat) _ _ j hj,Nh,Option.map_map]
   have e:j≠id:=fun e=>hj (by rw[e];exact VH I.tree (I.some hn))
   congr 1
   funext m
   simp only[Function.comp_apply,if_neg e,if_neg hj,Qae]
 rw[← h3,← h2]
 split
 ·unfold Xf
  split
  ·rw[zV (key:=Qae) (A0 (fun _=>rfl))]
  ·rfl
 ·rfl
theorem Qad.take {M:Qh} (I:Qy M) (V:Qad M) {id:Int} {n:Nd} (hn:Qg M.N id=some n) (hl:n.c.leaf=true) (r:Bool):Qad (XB M id r):=by
 have key:=QuI I hn r
 generalize (n.q.l.headD default).len.toNat=L at key
 have KB:=I.some hn
 have bk:∀{j:Int} {m:Nd},Qg (XB M id r).N j=some m→∃m0,Qg M.N j=some m0∧m.c=m0.c∧m.ZM=(if j∈up M.T id then Vf (m0.ZM+L) else m0.ZM)∧m.q.bo=if j=id then Vf (m0.q.bo+L) else m0.q.bo:=fun {j m} hm=>by
  have h:=key j
  rw[hm]at h
  obtain⟨m0,h1,h2⟩:=Option.map_eq_some_iff.1 h.symm
  simp only[Qae,Prod.mk.injEq]at h2
  exact⟨m0,h1,h2.1.symm,h2.2.1.symm,h2.2.2.symm⟩
 have ZM:∀{j:Int} {m0:Nd},Qg M.N j=some m0→(Qx (XB M id r) j).ZM=(if j∈up M.T id then Vf ((Qx M j).ZM+L) else (Qx M j).ZM):=fun {j m0} h0=>by
  have h:=key j
  rw[h0]at h
  obtain⟨m,h1,h2⟩:=Option.map_eq_some_iff.1 h
  simp only[Qae,Prod.mk.injEq]at h2
  unfold Qx
  rw[h1,h0]
  exact h2.2.1
 refine⟨fun j m hm j8=>?_,fun j m hm j8=>?_⟩
 ·obtain⟨m0,h1,h2,h3,h4⟩:=bk hm
  have h5:=V.leaf j m0 h1 (by rw[← h2];exact j8)
  rw[h3,h4]
  by_cases e:j=id
  ·have:j∈up M.T id:=by rw[e];exact VH I.tree KB
   rw[if_pos this,if_pos e,h5]
  ·have:j ∉ up M.T id:=fun h=>e (QoG I.tree (I.some h1) (by rw[← h2];exact j8) h).symm
   rw[if_neg this,if_neg e,h5]
 ·obtain⟨m0,h1,h2,h3,h4⟩:=bk hm
  have h5:=V.inner j m0 h1 (by rw[← h2];exact j8)
  rw[h3,QuH]
  have jM:∀q∈KZ M.T j,∃mq c,Qg M.N q=some mq∧Qr M.T q=some c∧c.parent=j:=fun q hq=>by
   obtain⟨c,hc,hp⟩:=(QqJ I.tree.rising).1 hq
   obtain⟨mq,h6,_⟩:=I.HN hc
   exact⟨mq,c,h6,hc,hp⟩
  by_cases hj:j∈up M.T id
  ·rw[if_pos hj]
   have QD:id≠j:=fun e=>by
    subst e
    rw[hn]at h1
    cases h1
    rw[← h2,j8]at hl
    cases hl
   obtain⟨q,c,g1,g2,g3⟩:=Nk I.tree hj QD
   have hqm:q∈KZ M.T j:=(QqJ I.tree.rising).2 ⟨c,g2,g3⟩
   have hs:=Qdf (f:=fun j=>(Qx M j).ZM) (f':=fun j=>(Qx (XB M id r) j).ZM) (L:=L) (QuG I.tree.rising j) hqm (by
    obtain⟨mq,_,g4,_⟩:=jM q hqm
    rw[ZM g4,if_pos g1]) fun i hi hiq=>by
    obtain⟨mi,ci,g4,g5,g6⟩:=jM i hi
    rw[ZM g4,if_neg fun h=>hiq (Qkh I.tree h g1 g5 g2 (g6.trans g3.symm))]
   rw[h5]
   show Vf (Vf (Qai M (KZ M.T j))+L)=Vf (Qai (XB M id r) (KZ M.T j))
   unfold Qai
   rw[hs]
   unfold Vf
   omega
  ·rw[if_neg hj,h5]
   congr 1
   unfold Qai
   congr 1
   refine List.map_congr_left fun i hi=>?_
   obtain⟨mi,ci,g4,g5,g6⟩:=jM i hi
   rw[ZM g4,if_neg fun h=>hj (by
    refine up_sub I.tree h ?_
    rw[JS I.tree g5,g6]
    exact List.mem_cons_of_mem _ (VH I.tree (I.some h1)))]
theorem Qad.takeN {M:Qh} (I:Qy M) (VI:Inv M) (V:Qad M) (now:Nat):Qad (takeN M now):=by
 unfold X.takeN
 cases hp:qp M now with
 | none=>exact V.told now
 | some x=>
  unfold qp at hp
  split at hp
  ·obtain⟨n,h1,h2,h3,_⟩:=(VI.told now).pick (yr I now) (OW _ _) hp
   exact(V.told now).take (yr I now) h1 h2 x.2
  ·cases hp
theorem Qad.zero {M:Qh} (h:∀n∈M.N,n.ZM=0∧n.q.bo=0):Qad M:=by
 have h:=fun id n (hn:Qg M.N id=some n)=>h n (List.mem_of_find?_eq_some hn)
 have hz:∀j,(Qx M j).ZM=0:=fun j=>by
  unfold Qx
  cases hf:Qg M.N j with
  | none=>rfl
  | some n=>exact(h j n hf).1
 have hs:∀l,Qai M l=0:=fun l=>by
  unfold Qai
  induction l with
  | nil=>rfl
  | cons a l ih=>simp only[List.map_cons,List.sum_cons,hz a];omega
 exact⟨fun id n hn _=>by rw[(h id n hn).1,(h id n hn).2],fun id n hn _=>by rw[(h id n hn).1,hs];rfl⟩
theorem Qdk (c:Cf):Qad (M0 c):=Qad.zero fun n hn=>by simp [M0]at hn
theorem Qad.first {c:Cf} (b:Bool) (l:List ZN):Qad (VE (M0 c) b l):=by
 unfold VE
 split
 ·have h1:∀(T2:List Qj) (L:List Int) (M:Qh),(∀n∈M.N,n.ZM=0∧n.q.bo=0)→∀n∈(L.foldl (Z2 T2) M).N,n.ZM=0∧n.q.bo=0:=by
   intro T2 L
   induction L with
   | nil=>exact fun M h=>h
   | cons i L ih=>
    intro M h
    refine ih _ fun n hn=>?_
    unfold Z2 at hn
    have go:∀k:Qj,n∈Wd k::q5 M.N i→n.ZM=0∧n.q.bo=0:=fun k hn=>by
     rcases List.mem_cons.1 hn with rfl|hn
     ·exact⟨rfl,rfl⟩
     ·exact h n (List.mem_filter.1 hn).1
    split at hn
    ·exact h n (List.mem_filter.1 hn).1
    ·split at hn<;>exact go _ hn
  refine Qad.zero fun n (hm:n∈Wx (M0 c) (Wq (M0 c).T l))=>?_
  obtain⟨k,_,rfl⟩:=List.mem_map.1 hm
  unfold Qx
  cases hf:Qg (KE (M0 c) (Wq (M0 c).T l)).N k.iD with
  | none=>exact⟨rfl,rfl⟩
  | some n=>exact h1 _ _ _ (fun n hn=>by simp [M0]at hn) n (List.mem_of_find?_eq_some hf)
 ·exact Qdk c
def Qal (a:Act):Bool:=a.kind==0 || a.kind==1
def Qag:List Act→List Act
 | []=>[]
 | a::l=>a::l.filter Qal
structure QaW (J:Nat→Qh→Prop) (own:Nat→Tag) (h:List Ob) (p:Nat) (M:Qh) (l:List Act) (k:Nat) (s:St):Prop where
 ex:∃own' H,J7 own' H p (runN M (l.take k))∧J k (runN M (l.take k))∧QZ own h own' H∧s=⟨[(6,.ptr p 0 0 0),(7,Qb 0),(15,Ks l),(16,Qb l.length),(17,Qb k)],H⟩
theorem QaW.of {J:Nat→Qh→Prop} {l:List Act} {own h p M k own' H} (C:J7 own' H p (runN M (l.take k))) (j:J k (runN M (l.take k))) (D:QZ own h own' H) :
  QaW J own h p M l k ⟨[(6,.ptr p 0 0 0),(7,Qb 0),(15,Ks l),(16,Qb l.length),(17,Qb k)],H⟩:=⟨⟨own',H,C,j,D,rfl⟩⟩
theorem QuK (own:Nat→Tag) (h:List Ob) {c:Cf} (K:vz c) (l:List Act) (hl:zW l=true) (hc:∀a∈l,Act.Ok a) (J:Nat→Qh→Prop) (hJ0:J 0 (M0 c)) (hJ:∀k M,k<l.length→Qy M→Inv M→J k M→J (k+1) (CU M (l.getD k default))) :
  QH prog 12 h [.agg c.cells,Ks l] (fun d h'=>∃own' p,d=.tup [.ptr p 0 0 0,Qb 0]∧J7 own' h' p (runN (M0 c) l)∧J l.length (runN (M0 c) l)∧QZ own h own' h'):=by
 have Iz:=O1 hl
 refine QX Qe 200 func12 rfl ntmps12 results12 rfl fun base w pl hb=>?_
 simp only[go_sem,simprocAttr,Qa]
 refine QT hb Rr rfl ?_ (aQ (Za own h .no) (h++[jP c]) K) rfl fun d h1 hR=>?_
 ·simp only[go_sem,simprocAttr,Qa]
 obtain⟨JL,p,rfl,C1,D1⟩:=hR
 refine Qc hb ?_
 simp only[go_sem,simprocAttr,Qa]
 have D0:=(QZ.app own h [jP c] .no).trans D1
 refine Zv (QaW J own h p (M0 c) l) l.length (s0:=⟨[(6,.ptr p 0 0 0),(7,Qb 0),(15,Ks l),(16,Qb l.length),(17,Qb 0)],h1⟩) (Qk.frame (by simp only[go_sem,simprocAttr])) (QaW.of (k:=0) C1 hJ0 D0) ?_
 rintro k _ hk ⟨⟨Kr,H,C2,j2,D2,rfl⟩⟩
 by_cases Qn:k<l.length
 ·have dk:=decide_eq_true Qn
  obtain⟨x,hx⟩:∃x,x=l.getD k default:=⟨_,rfl⟩
  have yq:x∈l:=by rw[hx];exact jo l default k Qn
  have Jh:=hc x yq
  have ZP:=Qbi hl yq
  obtain⟨now,Vo⟩:∃n:Nat,x.now=n:=⟨x.now.toNat,by have:=Jh.now;omega⟩
  have CK:now<18446744073709551616:=by have:=Jh.now;omega
  have Zj:=Qro (M:=M0 c) Qn
  have j3:=hJ k _ Qn C2.I C2.V j2
  rw[← Zj]at j3
  rw[← hx]at Zj
  unfold CU at Zj
  rw[Vo,Int.toNat_natCast]at Zj
  have Q3:=JX (show k<4611686018427387904 by omega)
  have hu:u64 now=.raw (.int .u64 x.now):=by rw[Vo];rfl
  have C3:=C2.VP [wU x]
  have D3:=D2.trans (QZ.app Kr H [wU x] .no)
  by_cases k0:x.kind=0
  case' pos=>
   have e0:(x.kind==0)=true:=by simpa using k0
   rw[if_pos k0]at Zj
   have hT:=Ft C3 now
   rw[hu]at hT
   refine Qc hb ?_
   simp only[go_sem,simprocAttr,Qa,dk,Qn,← hx,e0]
   refine QT hb DQ rfl ?_ hT rfl fun d h2 hR=>?_
   ·simp only[go_sem,simprocAttr,Qa]
  case' neg=>
   have e0:(x.kind==0)=false:=by simpa using k0
   rw[if_neg k0]at Zj
   by_cases k1:x.kind=1
   case' pos=>
    have e1:(x.kind==1)=true:=by simpa using k1
    rw[if_pos k1]at Zj
    have hT:=Fs C3 now CK x.cls x.Xr
    rw[hu]at hT
    refine Qc hb ?_
    simp only[go_sem,simprocAttr,Qa,dk,Qn,← hx,e0,e1]
    refine QT hb DS rfl ?_ hT rfl fun d h2 hR=>?_
    ·simp only[go_sem,simprocAttr,Qa]
   case' neg=>
    have e1:(x.kind==1)=false:=by simpa using k1
    rw[if_neg k1]at Zj
    refine Qc hb ?_
    simp only[go_sem,simprocAttr,Qa,dk,Qn,← hx,e0,e1]
    refine QT hb MI rfl ?_ (OY C3 x.idle x.changes Jh.aR ZP) rfl fun d h2 hR=>?_
    ·simp only[go_sem,simprocAttr,Qa]
  all_goals
   obtain⟨rfl,q4,C4,D4⟩:=hR
   refine Qc hb ?_
   simp only[go_sem,simprocAttr,Qa]
   rw[← Zj]at C4
   exact⟨Qn,_,Qk.frame (by simp only[go_sem,simprocAttr,Q3]),QaW.of C4 j3 (D3.trans D4)⟩
 ·have dk:=decide_eq_false Qn
  have ZE:k=l.length:=by omega
  rw[ZE,List.take_length]at C2 j2
  refine Qc hb ?_
  simp only[go_sem,simprocAttr,Qa,dk]
  refine Qc hb ?_
  simp only[go_sem,simprocAttr,Qa]
  exact⟨Kr,p,rfl,C2,j2,D2⟩
theorem QuL {l:List Act} {k:Nat} (hk:k<l.length):Qag (l.take (k+1))=Qag (l.take k)++(if k=0∨Qal (l.getD k default)=true then [l.getD k default] else []):=by
 rw[getD_take l default k hk]
 cases l with
 | nil=>simp at hk
 | cons a l=>
  cases k with
  | zero=>simp [Qag]
  | succ k=>
   rw[List.take_succ_cons]
   simp only[List.cons_append,Qag,List.filter_append,List.getD_cons_succ]
   congr 2
   generalize l.getD k default=y
   cases h:Qal y<;>simp [List.filter_cons,h]
theorem Qdm {l:List Act} {a:Act} (h:a∈Qag l):a∈l:=by
 cases l with
 | nil=>exact h
 | cons b l=>
  rcases List.mem_cons.1 h with rfl|h
  ·exact List.mem_cons_self
  ·exact List.mem_cons_of_mem _ (List.mem_filter.1 h).1
theorem Qdn (l:List Act):(Qag l).length≤l.length:=by
 cases l with
 | nil=>exact Nat.le_refl _
 | cons b l=>
  have:=List.length_filter_le Qal l
  simp only[Qag,List.length_cons]
  omega
theorem QuM {l:List Act} (h:zW l=true):zW (Qag l)=true:=by
 have h1:=O1 h
 have h2:=Qdn l
 unfold zW at h ⊢
 simp only[Bool.and_eq_true,List.all_eq_true,decide_eq_true_eq]at h ⊢
 exact⟨by omega,fun a ha=>h.2 a (Qdm ha)⟩
theorem QuN {l:List Act} {k:Nat} (hk:k+1<(Qag l).length):Qal ((Qag l).getD (k+1) default)=true:=by
 cases l with
 | nil=>simp [Qag]at hk
 | cons b l=>
  simp only[Qag,List.length_cons]at hk
  simp only[Qag,List.getD_cons_succ]
  have:=jo (l.filter Qal) default k (by omega)
  exact(List.mem_filter.1 this).2
def Qaq (h:List Ob) (d:D) (l:List Act):Prop:=(d=.nil∧l=[])∨∃lo g row,d=.ref lo g 0 l.length∧0<lo∧h[lo]? = some ⟨.arr,g,11,l.length,row⟩∧∀i,i<l.length→row i=(l.getD i default).cells
theorem QuR {dn:List Act} {row:Nat→List D} {v:Act} (hr:∀i,i<dn.length→row i=(dn.getD i default).cells):∀i,i<(dn++[v]).length→Jx dn.length 0 row (fun _=>v.cells) i=((dn++[v]).getD i default).cells:=fun i hi=>by
 simp at hi
 by_cases h1:i<dn.length
 ·rw[yL h1,Nat.zero_add,hr i h1];simp [List.getD_eq_getElem?_getD,h1,List.getElem?_append_left h1]
 ·have:i=dn.length:=by omega
  subst this
  rw[w6 (Nat.le_refl _)];simp [List.getD_eq_getElem?_getD]
theorem Qdo (u:Nat) (a b:D):∀fr:List (Nat × D),put (put fr u a) u b=put fr u b
 | []=>by simp [put]
 | (t,e)::r=>by
  cases h:Nat.beq t u with
  | true=>simp [put,h]
  | false=>simp [put,h,Qdo u a b r]
theorem QuS {w0:Start} (hF:w0.F=[]) (hp:w0.pl=[]) {fr:List (Nat × D)} {h:List Ob} {d:D} {L:List Act} (t:Nat) (ht:get fr t=d) (hS:Qaq h d L) (h0:0<h.length) :
  ∃row h',Qk w0 ⟨fr,h⟩ ⟨put fr t (.imm 11 L.length row),h'⟩∧(∀i,i<L.length→row i=(L.getD i default).cells)∧h'[0]? = h[0]? := by
 have xU:w0.pl.length=w0.F.length:=by rw[hF,hp];rfl
 have hg:∀h:List Ob,pR w0.F h:=fun h l o e=>by rw[hF]at e;simp at e
 have hz:∀n,w0.F.length≤n:=fun n=>by rw[hF];exact Nat.zero_le _
 rcases hS with ⟨rfl,rfl⟩|⟨lo,g,row,rfl,Zr,zA,jz⟩
 ·refine⟨rowFrom 0 (fun _=>[]),h++[(⟨.arr,0,11,0,fun _=>[]⟩:Ob).gone],?_,fun i hi=>absurd hi (Nat.not_lt_zero i),QU h0⟩
  have W1:=Qk.QrD (w0:=w0) (h:=h) t 11 ht
  have W2:=Qk.Nt xU (hg _) t h.length (hz _) (fr:=put fr t (.ref h.length 0 0 0)) (h:=h++[(⟨.arr,0,11,0,fun _=>[]⟩:Ob)]) (o:=⟨.arr,0,11,0,fun _=>[]⟩) (off:=0) (len:=0) (by rw[yB,if_pos rfl]) (Kc rfl) (Nat.le_refl 0) rfl (fun i hi=>absurd hi (Nat.not_lt_zero i))
  rw[Qdo,MG rfl]at W2
  exact Qk.trans W1 W2
 ·refine⟨rowFrom 0 row,_,Qk.Nt xU (hg _) t lo (hz _) ht zA (by show 0+L.length≤L.length;omega) rfl (fun i hi=>?_),fun i hi=>?_,Qt (by omega)⟩
  ·show (row i).all D.ko=true
   rw[jz i hi];rfl
  ·rw[DO,Nat.zero_add,jz i hi]
structure Qau (c:Cf) (l:List Act) (k:Nat) (s:St):Prop where
 ex:∃H d,Qaq H d (Qag (l.take k))∧H[0]? = some (jP c)∧s=⟨[(2,.ptr 0 0 0 0),(5,d),(29,Ks l),(30,Qb l.length),(31,Qb k)],H⟩
theorem Qau.of {l:List Act} {c k H d} (h:Qaq H d (Qag (l.take k))) (h0:H[0]? = some (jP c)):Qau c l k ⟨[(2,.ptr 0 0 0 0),(5,d),(29,Ks l),(30,Qb l.length),(31,Qb k)],H⟩:=⟨⟨H,d,h,h0,rfl⟩⟩
theorem Qaq.one {h} (a b) (x:Act) (g):Qaq (h++(a::b::⟨.arr,0,11,1,fun _=>x.cells⟩::g)) (.ref (h.length+2) 0 0 1) ([]++[x]):=
 .inr ⟨h.length+2,0,fun _=>x.cells,rfl,by omega,by rw[KW (k:=2) rfl];rfl,fun i hi=>by
  obtain rfl:i=0:=by simp at hi;omega
  rfl⟩
theorem Qaq.push {h:List Ob} {lo g:Nat} {row:Nat→List D} {L:List Act} (h0:0<lo) (hl:lo<h.length) (hr:∀i,i<L.length→row i=(L.getD i default).cells) (x:Act) (g2:List Ob) :
  Qaq (h.set lo ⟨.arr,g+1,11,L.length+1,Jx L.length 0 row fun _=>x.cells⟩++g2) (.ref lo (g+1) 0 (L.length+1)) (L++[x]):=
 .inr ⟨lo,g+1,Jx L.length 0 row fun _=>x.cells,by simp,h0,by rw[QU (by simpa using hl),Qw hl];simp,QuR hr⟩
theorem QuT (c:Cf) (l:List Act) (hc:∀a∈l,Act.Ok a):Q8 prog 5 [.agg c.cells,Ks l] (Ql (QN true)):=by
 have hF:=OV l
 have hM:=OU c
 refine Zb 0 Qe 200 func5 rfl ntmps5 results5 rfl fun base w hb=>?_
 simp only[go_sem,simprocAttr]
 refine QE hb kF rfl ?_ hF (Ql.flat rfl) rfl fun d h hR=>?_
 ·simp only[go_sem,simprocAttr]
 obtain⟨rfl,rfl⟩:=hR
 refine Qc hb ?_
 cases hf:zW l
 case' true=>
  simp only[go_sem,simprocAttr]
  refine QE hb BL rfl ?_ hM (Ql.flat rfl) rfl fun d h hR=>?_
  ·simp only[go_sem,simprocAttr]
  obtain⟨rfl,rfl⟩:=hR
  refine Qc hb ?_
  cases hm:CN c
 rotate_left 2
 iterate 2
  focus
   simp only[go_sem,simprocAttr]
   refine QE hb qE rfl ?_ q6 (Ql.flat rfl) rfl fun d h hR=>?_
   ·simp only[go_sem,simprocAttr]
   obtain⟨rfl,rfl⟩:=hR
   refine Qc hb ?_
   simp only[go_sem,simprocAttr]
 simp only[go_sem,simprocAttr]
 have K:=aN.1 hm
 have Iz:=O1 hf
 refine Zv (Qau c l) l.length (s0:=⟨[(2,.ptr 0 0 0 0),(5,.nil),(29,Ks l),(30,Qb l.length),(31,Qb 0)],[jP c]⟩) (Qk.frame (by simp only[go_sem,simprocAttr])) (Qau.of (k:=0) (.inl ⟨rfl,rfl⟩) rfl) ?_
 rintro k _ hk ⟨⟨H,d,hS,h0,rfl⟩⟩
 have QaE:=Qd h0
 by_cases Qn:k<l.length
 ·have dk:=decide_eq_true Qn
  obtain⟨x,hx⟩:∃x,x=l.getD k default:=⟨_,rfl⟩
  have Q3:=JX (show k<4611686018427387904 by omega)
  have ZJ:=QuL Qn
  rw[← hx]at ZJ
  have G3:(Qag (l.take k)).length≤k:=Nat.le_trans (Qdn _) (by rw[List.length_take];omega)
  have skip:(decide (k=0) || Qal x)=false→Qaq (H++[wU x]) d (Qag (l.take (k+1))):=fun h=>by
   have h2:¬ (k=0∨Qal x=true):=fun h3=>by
    rcases h3 with h3|h3
    ·simp [h3]at h
    ·rw[h3]at h;simp at h
   rw[ZJ,if_neg h2,List.append_nil]
   exact hS.imp id fun⟨lo,g,row,a1,a2,a3,a4⟩=>⟨lo,g,row,a1,a2,(QU (Qd a3)).trans a3,a4⟩
  have take:(decide (k=0) || Qal x)=true→Qag (l.take (k+1))=Qag (l.take k)++[x]:=fun h=>by
   rw[ZJ,if_pos (by simpa using h)]
  have e0:((k:Int)==0)=decide (k=0):=by rw[Bool.eq_iff_iff];simp
  cases b0:decide (k=0)<;>cases b1:(x.kind==0)<;>cases b2:(x.kind==1)<;>rw[b0]at e0<;>first
  |(have hT:=skip (by unfold Qal;rw[b0,b1,b2]<;>rfl)
    refine Qc hb ?_
    simp only[go_sem,simprocAttr,Qa,dk,Qn,← hx,e0,b1,b2,Go.undef]
    exact⟨_,Qk.frame (fr':=[(2,.ptr 0 0 0 0),(5,d),(29,Ks l),(30,Qb l.length),(31,Qb (k+1:Nat))]) (by simp only[go_sem,simprocAttr,Q3]),Qau.of hT ((QU QaE).trans h0)⟩)
  |(have hT:=take (by unfold Qal;rw[b0,b1,b2]<;>rfl)
    rcases hS with ⟨rfl,Kp⟩|⟨lo,g,row,rfl,Zr,zA,jz⟩
    ·refine Qc hb ?_
     simp only[go_sem,simprocAttr,Qa,dk,Qn,← hx,e0,b1,b2,Go.undef]
     rw[Kp]at hT
     exact⟨_,Qk.frame (fr':=[(2,.ptr 0 0 0 0),(5,.ref (H.length+2) 0 0 1),(29,Ks l),(30,Qb l.length),(31,Qb (k+1:Nat))]) (by simp only[go_sem,simprocAttr,Q3]),Qau.of (by rw[hT];exact Qaq.one _ _ x _) ((QU QaE).trans h0)⟩
    ·have yw:=Qd zA
     refine Qc hb ?_
     simp only[go_sem,simprocAttr,Qa,dk,Qn,← hx,e0,b1,b2,Go.undef,zA,yw]
     exact⟨by omega,_,Qk.frame (fr':=[(2,.ptr 0 0 0 0),(5,.ref lo (g+1) 0 ((Qag (l.take k)).length+1)),(29,Ks l),(30,Qb l.length),(31,Qb (k+1:Nat))]) (by simp only[go_sem,simprocAttr,Q3]),Qau.of (by rw[hT];exact Qaq.push Zr yw jz x _) (by rw[QU (by simpa using QaE),Qt (by omega)];exact h0)⟩)
 ·have dk:=decide_eq_false Qn
  have ZE:k=l.length:=by omega
  rw[ZE,List.take_length]at hS
  obtain⟨ka,hka⟩:∃ka,ka=Qag l:=⟨_,rfl⟩
  have hkf:=QuM hf
  have hko:∀a∈Qag l,Act.Ok a:=fun a ha=>hc a (Qdm ha)
  have YM:∀i,i+1<(Qag l).length→Qal ((Qag l).getD (i+1) default)=true:=fun i hi=>QuN hi
  rw[← hka]at hS hkf hko YM
  obtain⟨r1,H1,W1,qt,hg1⟩:=QuS (w0:=⟨w,[],[]⟩) rfl rfl (fr:=[(2,.ptr 0 0 0 0),(5,d),(29,Ks l),(30,Qb l.length),(31,Qb k)]) 5 (d:=d) rfl hS QaE
  have h1:=hg1.trans h0
  have Qz:=Qd h1
  refine xu W1 ?_
  simp only[go_sem,simprocAttr]
  refine Qc hb ?_
  simp only[go_sem,simprocAttr,Qa,dk]
  refine Qc hb ?_
  simp only[go_sem,simprocAttr,Qa,h1,Qz]
  refine QT hb Rq rfl ?_ (QuK (fun _=>.no) H1 K ka hkf hko (fun k M=>Qad M∧(k=0→M=M0 c)) ⟨Qdk c,fun _=>rfl⟩ ?_) rfl fun d h2 hR=>?_
  ·simp only[go_sem,simprocAttr,Qa]
   exact fun i hi=>qt i hi
  ·rintro k M hk I V ⟨hT,hz⟩
   refine⟨?_,fun h=>absurd h (Nat.succ_ne_zero k)⟩
   cases k with
   | zero=>
    obtain rfl:=hz rfl
    unfold CU
    split
    ·exact hT.takeN I V _
    ·split
     ·exact hT.VS _ _ _
     ·exact Qad.first _ _
   | succ k=>
    have h3:=YM k hk
    unfold Qal at h3
    unfold CU
    split
    ·exact hT.takeN I V _
    ·rename_i a0
     split
     ·exact hT.VS _ _ _
     ·rename_i a1
      rw[beq_eq_false_iff_ne.2 a0,beq_eq_false_iff_ne.2 a1]at h3
      cases h3
  obtain⟨JL,p,rfl,C1,⟨Qbs,_⟩,D1⟩:=hR
  obtain⟨M,Xi⟩:∃M,M=runN (M0 c) ka:=⟨_,rfl⟩
  rw[← Xi]at C1 Qbs
  refine Qc hb ?_
  simp only[go_sem,simprocAttr,Qa]
  refine QT hb nV rfl ?_ (QbB C1) rfl fun d h3 hR=>?_
  ·simp only[go_sem,simprocAttr,Qa]
  obtain⟨rfl,R4,g4,rfl⟩:=hR
  refine Qc hb ?_
  simp only[go_sem,simprocAttr,Qa]
  refine QK hb Gy rfl ?_ (QbC R4 C1.I.tree) rfl fun d hR=>?_
  ·simp only[go_sem,simprocAttr,Qa]
  subst hR
  refine Qc hb ?_
  simp only[go_sem,simprocAttr,Qa]
  obtain⟨H0,hH0⟩:∃H0,H0=h2++g4:=⟨_,rfl⟩
  have CH:J7 (Za JL h2 .no) H0 p M:=by rw[hH0];exact C1.VP g4
  have RH:Kz H0 (h2.length+1) M.T:=by rw[hH0];exact R4
  have CS:∀g,J7 (Za (Za JL h2 .no) H0 .no) (H0++g) p M:=fun g=>CH.VP g
  have RS:∀g,Kz (H0++g) (h2.length+1) M.T:=fun g=>RH.more wm
  rw[← hH0]
  obtain⟨pt,hpt⟩:∃pt,pt=h2.length+1:=⟨_,rfl⟩
  rw[← hpt]at RS ⊢
  obtain⟨ids,O7⟩:∃ids,ids=M.T.map (·.iD):=⟨_,rfl⟩
  have hil:ids.length=M.T.length:=by rw[O7,List.length_map]
  have hTl:=CH.I.tree.len
  rw[← O7]
  have yl:∀i,i∈M.T.map (·.iD)→∃n,Qg M.N i=some n:=fun i hm=>by
   obtain⟨cc,j6,qv⟩:=List.mem_map.1 hm
   have hf:=(KY CH.I.tree.rising).2 ⟨j6,qv⟩
   obtain⟨n,h1,_⟩:=CH.I.HN hf
   exact⟨n,h1⟩
  refine Zv (fun k s=>∃g,s=⟨[(8,.ptr p 0 0 0),(9,Qb 0),(10,.ptr pt 0 0 0),(62,ints ids),(63,Qb ids.length),(64,Qb k)],H0++g⟩) ids.length (s0:=⟨[(8,.ptr p 0 0 0),(9,Qb 0),(10,.ptr pt 0 0 0),(62,ints ids),(63,Qb ids.length),(64,Qb 0)],H0⟩) (Qk.frame (by simp only[go_sem,simprocAttr])) ⟨[],by rw[List.append_nil];rfl⟩ ?_
  rintro k _ hk ⟨g,rfl⟩
  by_cases Qn:k<ids.length
  ·have dk:=decide_eq_true Qn
   obtain⟨id,QQ⟩:∃id,id=ids.getD k 0:=⟨_,rfl⟩
   have Q3:=JX (show k<4611686018427387904 by omega)
   obtain⟨n,hn⟩:=yl id (by rw[QQ,← O7];exact jo ids 0 k Qn)
   have hG1:=fun g=>QbA (CS g) hn
   obtain⟨A,hA⟩:∃A,A=ZG M id:=⟨_,rfl⟩
   obtain⟨F,hFF⟩:∃F,F=KD M id n:=⟨_,rfl⟩
   rw[← hA,← hFF]at hG1
   cases Yr:n.c.leaf with
   | true=>
    have ht:=Qbs.leaf id n hn Yr
    refine Qc hb ?_
    simp only[go_sem,simprocAttr,Qa,dk,Qn,← QQ]
    refine QK hb nW rfl ?_ (hG1 _) rfl fun d hR=>?_
    ·simp only[go_sem,simprocAttr,Qa,Yr,ht,bne_self_eq_false]
    subst hR
    refine Qc hb ?_
    simp only[go_sem,simprocAttr,Qa,Yr,ht,bne_self_eq_false]
    exact⟨Qn,_,Qk.frame (by simp only[go_sem,simprocAttr,Q3]),_,rfl⟩
   | false=>
    have ht:=Qbs.inner id n hn Yr
    refine Qc hb ?_
    simp only[go_sem,simprocAttr,Qa,dk,Qn,← QQ]
    refine QK hb nW rfl ?_ (hG1 _) rfl fun d hR=>?_
    ·simp only[go_sem,simprocAttr,Qa,Yr]
    subst hR
    refine Qc hb ?_
    simp only[go_sem,simprocAttr,Qa,Yr]
    obtain⟨cs,ZS⟩:∃cs,cs=KZ M.T id:=⟨_,rfl⟩
    have ZP:cs.length≤64:=by
     have:=List.length_filter_le (fun x:Qj=>x.parent==id) M.T
     rw[ZS]
     simp only[KZ,List.length_map]
     omega
    have hCh:=fun g=>Qk7 (RS g) (by omega) id
    rw[← ZS]at ht hCh
    refine QK hb Ru rfl ?_ (hCh _) rfl fun d hR=>?_
    ·simp only[go_sem,simprocAttr,Qa]
    subst hR
    refine Qc hb ?_
    simp only[go_sem,simprocAttr,Qa]
    refine Zv (fun i s=>∃g2,s=⟨[(8,.ptr p 0 0 0),(9,Qb 0),(10,.ptr pt 0 0 0),(62,ints ids),(63,Qb ids.length),(64,Qb k),(13,.ptr (H0.length+g.length) 0 0 0),(15,u64 (Vf (Qai M (cs.take i)))),(94,ints cs),(95,Qb cs.length),(96,Qb i)],H0++(g++(QbE n A F::g2))⟩) cs.length (s0:=⟨[(8,.ptr p 0 0 0),(9,Qb 0),(10,.ptr pt 0 0 0),(62,ints ids),(63,Qb ids.length),(64,Qb k),(13,.ptr (H0.length+g.length) 0 0 0),(15,.raw (.int .u64 0)),(94,ints cs),(95,Qb cs.length),(96,Qb 0)],H0++(g++[QbE n A F])⟩) (Qk.frame (by simp only[go_sem,simprocAttr])) ⟨[],rfl⟩ ?_
    rintro i _ hi ⟨g2,rfl⟩
    by_cases ja:i<cs.length
    ·have di:=decide_eq_true ja
     obtain⟨j,hj⟩:∃j,j=cs.getD i 0:=⟨_,rfl⟩
     have hwi:=JX (show i<4611686018427387904 by omega)
     have hjm:j∈KZ M.T id:=by rw[← ZS,hj];exact jo cs 0 i ja
     obtain⟨nj,hnj⟩:∃nj,Qg M.N j=some nj:=by
      obtain⟨cc,j6,_⟩:=(QqJ CH.I.tree.rising).1 hjm
      obtain⟨nn,h1,_⟩:=CH.I.HN j6
      exact⟨nn,h1⟩
     have bj:=fun g=>QbA (CS g) hnj
     have hts:Qai M (cs.take (i+1))=Qai M (cs.take i)+nj.ZM:=by
      unfold Qai
      rw[getD_take cs 0 i ja,← hj,List.map_append,List.sum_append]
      have:Qx M j=nj:=by unfold Qx;rw[hnj];rfl
      simp [this]
     have si:IntKind.u64.wrap (((Vf (Qai M (cs.take i)):Nat):Int)+(nj.ZM:Int))=((Vf (Qai M (cs.take (i+1))):Nat):Int):=by
      rw[su,hts]
      congr 1
      unfold Vf
      omega
     refine Qc hb ?_
     simp only[go_sem,simprocAttr,Qa,di,ja,← hj]
     refine QK hb nW rfl ?_ (bj _) rfl fun d hR=>?_
     ·simp only[go_sem,simprocAttr,Qa,si]
     subst hR
     refine Qc hb ?_
     simp only[go_sem,simprocAttr,Qa,si]
     exact⟨ja,_,Qk.frame (by simp only[go_sem,simprocAttr,hwi]),_,rfl⟩
    ·have di:decide (cs.length<cs.length)=false:=decide_eq_false (by omega)
     have Wz:i=cs.length:=by omega
     rw[Wz,List.take_length,← ht]
     refine Qc hb ?_
     simp only[go_sem,simprocAttr,Qa,di]
     refine Qc hb ?_
     simp only[go_sem,simprocAttr,Qa,bne_self_eq_false]
     exact⟨Qn,_,Qk.frame (by simp only[go_sem,simprocAttr,Q3]),_,rfl⟩
  ·have dk:=decide_eq_false Qn
   refine Qc hb ?_
   simp only[go_sem,simprocAttr,Qa,dk]
   refine Qc hb ?_
   simp only[go_sem,simprocAttr,Qa]
   refine QE hb qE rfl ?_ q6 (Ql.flat rfl) rfl fun d h hR=>?_
   ·simp only[go_sem,simprocAttr]
   obtain⟨rfl,rfl⟩:=hR
   refine Qc hb ?_
   simp only[go_sem,simprocAttr]
open Go.Proofs.YtklmjinbhnoppaaGreat
open Go.ChangeShapes Go.WideShapes Go.ChangeAt Go.RowKit
theorem Qvj:ownKnob prog.godebug=none:=by kernel_rfl
theorem Qdz:laidOutB prog=true:=by kernel_rfl
theorem Qvn (os:Os) (started:os.Started) (H:Type) (enc:TypeId × Value→H) :
  ReturnsInHanded {} checked os 5 .any (Rows.coreTotalsSpec.pre6 enc prog f5 Rows.coreTotalsRow.domain false) (Rows.coreTotalsSpec.post enc prog f5 false true false false):=by
 refine returnsInHanded_of_change (C:=checked) Qvj started (by kernel_rfl) func5
  (ChangeSpec.witness6 (enc:=enc) (C:=checked) false ⟨#[],#[.agg #[.int .i64 0,.int .i64 0],.slice none 0 0],[]⟩ 12 (by kernel_rfl) (by kernel_rfl) (by kernel_rfl) (by kernel_rfl)) ?_
 intro W base args ds gs before A1 hW Qbn _
 have q7:∀(j:Nat) t v,f5.params[j]? = some t→args[j]? = some v→Value.okWide prog W .any base t v:=A1
 have IE:=hW
 obtain⟨p,q,A3,hV,rfl,Eo,Zy⟩:=hW
 have hA:DataW.TrodAll enc prog W 0 (fun _=>true) true f5.params.toList args.toList ds p:=A3
 rw[params5]at hA q7
 obtain⟨v0,vs0,d0,ds0,p0,q0,DN,rfl,rfl,h0,r0⟩:=trodAll_cons hA
 obtain⟨v1,vs1,d1,ds1,p1,q1,rfl,rfl,rfl,h1,r1⟩:=trodAll_cons r0
 obtain⟨rfl,rfl,rfl⟩:=trodAll_nil r1
 obtain rfl:args=#[v0,v1]:=by cases args;simp_all
 obtain⟨rfl,rfl⟩:=trodVars_none hV
 obtain⟨IF,rfl,_⟩:=okWide_struct underlying23 (q7 0 23 v0 rfl rfl)
 obtain⟨a1,IG,II,rfl⟩:=okWide_slice underlying24 (q7 1 24 v1 rfl rfl)
 have t0:=h0
 have IJ:∀x∈p0,x.block<W.heap.size:=by obtain⟨m,hm⟩:=t0;exact DataW.trod_lt m _ _ _ hm
 have t1:=h1
 have IK:∀x∈p1,x.block<W.heap.size:=by obtain⟨m,hm⟩:=t1;exact DataW.trod_lt m _ _ _ hm
 obtain⟨x0,k0,c0⟩:=Rd.many RX h0
 obtain⟨x1,k1,c1⟩:=Rd.one (Rd.slice 11 underlying24 (by kernel_rfl) (by decide) MX) h1 (RV _ _ _)
 clear A3 A1
 have walk:Calls prog 5 #[.agg IF,.slice a1 IG II] W fun e W'=>e=.returned (.bool true)∧Below W.heap.size W W':=RW (QuT x0 x1 k1.2) W [_,_] rfl (fun i hi=>match i,hi with
  | 0,_=>c0
  | 1,_=>c1)
 refine walk.mono fun e W' ⟨he,Ko⟩=>?_
 subst he
 exact⟨_,rfl,_,_,_,[],_,[],IE,trodAll_mk1 (shut_bool underlying4 _),(trodAll_cons_mk (Below.trod Qdz (by kernel_rfl) (of_decide_eq_true (by kernel_rfl)) t0 Ko IJ) (trodAll_cons_mk (Below.trod Qdz (by kernel_rfl) (of_decide_eq_true (by kernel_rfl)) t1 Ko IK) trodAll_mk0)),rfl,Ko.frame _,fun h=>by cases h⟩
theorem Qvp:joinedFacts prog 5 f5 Rows.coreTotalsSpec Rows.coreTotalsRow=true:=by kernel_rfl
theorem Qvq:prog.funcNamed Rows.coreTotalsRow.func=some 5:=by kernel_rfl
theorem provedCoreTotals:Rows.CoreTotalsSaid:=
 OpenClaim.holds_of_wide 5 f5 rfl rfl rfl rfl rfl rfl rfl ⟨rfl,rfl,rfl,rfl,rfl⟩ rfl rfl rfl rfl rfl Qvq func5 Qvp
  (of_decide_eq_true (by kernel_rfl)) (by unfold Func.isWrapper;first|(rw[if_pos (by decide +kernel)];kernel_rfl)|(rw[if_neg (by decide +kernel)];exact⟨rfl,rfl⟩))
  (fun os started H enc _=>Qvn os started H enc)
end Go.Fg.X
namespace Go.Proofs.YtklmjinbhnoppaaGreat
theorem coreTotals_done : Rows.CoreTotalsSaid := Go.Fg.X.provedCoreTotals
end Go.Proofs.YtklmjinbhnoppaaGreat
