/- Contracts and laws on the way to the statement. No conditions. -/
import Derived.Test.YtklmjinbhnoppaaGreatYHr
import Derived.Test.YtklmjinbhnoppaaGreatPB1
import Derived.Test.YtklmjinbhnoppaaGreatFgTurn
import Derived.Test.YtklmjinbhnoppaaGreatFgHeap
set_option maxRecDepth 100000
set_option maxHeartbeats 16000000
set_option linter.unusedVariables false
set_option linter.unusedSimpArgs false
set_option linter.unusedSectionVars false
namespace Go.Fg.X
open Go.Proofs Go.Fg
open Go.Proofs.Tryz
def Jq (c:Cv):Nc:=⟨c.m1.toNat,c.d.toNat,c.m2.toNat⟩
theorem QnT {c:Cv} (h:c.Nn):((Jq c).a:Int)=c.m1:=Int.toNat_of_nonneg h.1
theorem QnU {c:Cv} (h:c.Nn):((Jq c).d:Int)=c.d:=Int.toNat_of_nonneg h.2.1
theorem QnV {c:Cv} (h:c.Nn):((Jq c).b:Int)=c.m2:=Int.toNat_of_nonneg h.2.2
theorem QnW {c:Cv} (h:c.Nn):(Jq c).cells=c.cells:=by simp only[Nc.cells,Cv.cells,u64,QnT h,QnU h,QnV h]
def N7 (x:Qj):Bool:=decide (1<QI x.rt)
def Wa (L:List Qj):List Nc:=(L.filter N7).map fun x=>Jq x.rt
theorem QnX (L:List Qj):(Wa L).length≤L.length:=by
 have:=List.length_filter_le N7 L
 unfold Wa;rw[List.length_map];exact this
section
variable (h:List Ob) (t m c:Nat) {es:List QM} {L:List Qj} (T:JQ es L) (hlen:L.length<1000000)
 (ht:(h.map Ob.ro)[t]? = some ⟨.KF,0,1,1,fun _=>[.mref m 0]⟩) (hm:(h.map Ob.ro)[m]? = some (QG .i64 c es).ro)
include T ht hm hlen
theorem QnY (hn:∀c∈L,c.Nn):J8 prog 130 h [.ptr t 0 0 0] (fun d g=>(d=.nil∧Wa L=[])∨∃lo gn row,d=.ref lo gn 0 (Wa L).length∧h.length≤lo∧(h++g)[lo]? = some ⟨.arr,gn,3,(Wa L).length,row⟩∧Yu Nc.cells (Wa L) 0 row):=by
 refine Yk Qe 200 func130 rfl ntmps130 results130 rfl fun base w pl F hF QS hb=>?_
 rw[← hF]at ht hm
 have QY:=Qd ht
 have QO:=Qd hm
 simp only[go_sem,simprocAttr,Qa,ht,QY,hm,QO]
 have hT:GL (F.map Ob.ro) 111 0 [] N7:=fun h' x zf=>by
  refine Zi Qe 200 func111 rfl ntmps111 results111 rfl fun base w pl F hF QS hb=>?_
  simp only[go_sem,simprocAttr,Qa]
  refine QE hb MO rfl ?_ (M7 x.rt) (Ql.flat rfl) rfl fun d h hR=>?_
  ·simp only[go_sem,simprocAttr,Qa]
  obtain⟨rfl,rfl⟩:=hR
  refine Qc hb ?_
  simp only[go_sem,simprocAttr,Qa]
  exact⟨_,rfl,rfl⟩
 obtain⟨K,hK⟩:∃K,K=L.filter N7:=⟨_,rfl⟩
 have hKl:K.length≤L.length:=by rw[hK];exact List.length_filter_le _ _
 have tI:Wa L=K.map fun x=>Jq x.rt:=by rw[hK];rfl
 refine Ad hb MK rfl ?_ (Nf _ t m c T hlen (ZA ht) (BO hm) (.raw (.func (.func 111) ⟨[]⟩ ⟨[]⟩)) 111 0 [] vY rfl _ hT) rfl fun d g hs=>?_
 ·simp only[go_sem,simprocAttr]
 rw[← hK]at hs
 rcases hs with ⟨rfl,h3⟩|⟨lo,gn,off,row,rfl,Zr,ho,hr⟩
 ·have hR0:Wa L=[]:=by
   rw[tI]
   have:K=[]:=by simpa using h3
   rw[this];rfl
  refine Qc hb ?_
  simp only[go_sem,simprocAttr,Qa]
  refine Zv (fun i s=>s=⟨[(3,.nil),(8,Qb 0),(9,Qb 0)],F++g⟩) 0 (Qk.frame (by simp only[go_sem,simprocAttr])) rfl ?_
  rintro i s hi rfl
  refine Qc hb ?_
  simp only[go_sem,simprocAttr,Qa]
  refine Qc hb ?_
  simp only[go_sem,simprocAttr,Qa]
  exact⟨_,rfl,.inl hR0⟩
 ·obtain⟨G,hG⟩:∃G,G=F++g:=⟨_,rfl⟩
  have Um:JR F G:=⟨g,hG⟩
  have Un:=Um.get ht
  have Uo:=Um.get hm
  rw[← hG]at ho ⊢
  have tJ:=Qd Un
  have tK:=Qd Uo
  have Qf:=Qd ho
  rw[List.length_map]at ho hr
  have EN:=Um.len
  refine Qc hb ?_
  simp only[go_sem,simprocAttr,Qa]
  refine Zv (fun i s=>∃gm HI rest,Yu Nc.cells ((K.take i).map fun x=>Jq x.rt) 0 HI∧s=⟨[(0,.ptr t 0 0 0),(3,.ref G.length gm 0 ((K.take i).map fun x=>Jq x.rt).length),(7,.ref lo gn off K.length),(8,Qb K.length),(9,Qb i)],G++(⟨.arr,gm,3,((K.take i).map fun x=>Jq x.rt).length,HI⟩::rest)⟩) K.length
   (s0:=⟨[(0,.ptr t 0 0 0),(3,.ref G.length 0 0 0),(7,.ref lo gn off K.length),(8,Qb K.length),(9,Qb 0)],G++[⟨.arr,0,3,0,fun _=>[]⟩]⟩)
   (Qk.trans (Qk.wV 3 3 (fun i=>[]) rfl) (Qk.frame (by simp only[go_sem,simprocAttr,List.length_map]))) ⟨0,fun _=>[],[],.nil,rfl⟩ ?_
  rintro i s hi ⟨gm,HI,rest,V1,rfl⟩
  have Q3:=JX (show i<4611686018427387904 by omega)
  refine Qc hb ?_
  simp only[go_sem,simprocAttr,Qa,Un,Uo,tJ,tK,ho,Qf]
  first|refine vT hi (fun Qn=>?_) (fun Qn=>?_)|refine vU hi (fun Qn=>?_) (fun Qn=>?_)
  ·obtain⟨x,hx⟩:∃x,x=K.getD i default:=⟨_,rfl⟩
   have tM:x∈K:=by rw[hx,List.getD_eq_getElem?_getD,List.getElem?_eq_getElem Qn];exact List.getElem_mem Qn
   have tN:x∈L:=by rw[hK]at tM;exact(List.mem_filter.1 tM).1
   have KB:Qr L x.iD=some x:=(KY T.sorted).2 ⟨tN,rfl⟩
   have VN:=T.look x.iD
   rw[KB,Option.map_some]at VN
   have tO:=hr i (by simpa using Qn)
   have Qn0:(K.map (·.iD)).getD i 0=x.iD:=by
    rw[hx,List.getD_eq_getElem?_getD,List.getD_eq_getElem?_getD,List.getElem?_map,List.getElem?_eq_getElem Qn];rfl
   rw[Qn0]at tO
   have ZJ:(K.take (i+1)).map (fun x=>Jq x.rt)=(K.take i).map (fun x=>Jq x.rt)++[Jq x.rt]:=by
    rw[List.take_add_one,List.getElem?_eq_getElem Qn,hx,List.getD_eq_getElem?_getD,List.getElem?_eq_getElem Qn,List.map_append]
    rfl
   obtain⟨M,hM⟩:∃M,M=(K.take i).map fun x=>Jq x.rt:=⟨_,rfl⟩
   have hMl:M.length≤i:=by rw[hM,List.length_map,List.length_take];omega
   have Co:M.length≤4294967295:=by omega
   rw[← hM]at ZJ V1 ⊢
   have Cq:=V1.app (Jq x.rt) (r2:=fun _=>(Jq x.rt).cells) rfl
   rw[QnW (hn x tN).1]at Cq
   simp only[go_sem,simprocAttr,Qa,Qn,Un,Uo,tJ,tK,ho,Qf,tO,VN,Co]
   refine⟨by omega,_,Qk.frame (fr':=[(0,.ptr t 0 0 0),(3,.ref G.length (gm+1) 0 (M.length+1)),(7,.ref lo gn off K.length),(8,Qb K.length),(9,Qb (i+1:Nat))]) (by simp only[go_sem,simprocAttr,Q3]),gm+1,_,rest++[⟨.arr,0,3,1,fun _=>x.rt.cells⟩],by rw[ZJ];exact Cq,?_⟩
   rw[ZJ,List.length_append]
   rfl
  ·have h1:i=K.length:=by omega
   subst h1
   rw[List.take_length,← tI]at V1 ⊢
   refine Qc hb ?_
   simp only[go_sem,simprocAttr,Qa]
   refine⟨g++(⟨.arr,gm,3,(Wa L).length,HI⟩::rest),by rw[hG,List.append_assoc],.inr ⟨G.length,gm,HI,rfl,by omega,?_,V1⟩⟩
   have hle:G.length=(h++g).length:=by rw[hG,List.length_append,List.length_append,QS]
   rw[← List.append_assoc,hle,List.getElem?_append_right (Nat.le_refl _),Nat.sub_self]
   rfl
theorem Qn1 (hn:∀c∈L,c.Nn):QP prog 130 h [.ptr t 0 0 0] (fun d=>d=Vz (Wa L)):=by
 refine SP (Vz (Wa L)) (fun k=>rfl) ?_ (QnY h t m c T hlen ht hm hn)
 rintro d g (⟨rfl,h3⟩|⟨lo,gn,row,rfl,Zr,ho,hr⟩)
 ·left
  rw[h3]
  simp only[go_sem,simprocAttr]
 ·right
  refine⟨lo,gn,3,_,row,Zr,ho,fun i hi=>?_,?_⟩
  ·obtain⟨a,ha⟩:=hr.all i (by simpa using hi)
   rw[ha];rfl
  ·have e1:D.fz lo gn (Wa L).length 3 row (.ref lo gn 0 (Wa L).length)=.imm 3 (Wa L).length (rowFrom 0 row):=by simp [D.fz,Gg]
   rw[e1]
   simp only[Vz]
   rw[Gv]
   refine⟨rfl,rfl,fun i hi=>?_⟩
   have h1:=hr.at_ i hi
   rw[Nat.zero_add]at h1
   rw[DO,Nat.zero_add,h1,Nc.v7]
   exact Aa (Ab _) _
end
@[go_sem] def jI (n:Int):D:=.raw (.int .i64 n)
def Cr (d:Array Int):Nat→List D:=fun i=>[jI d[i]!]
@[go_sem] theorem Qn2 (d:Array Int) (i:Nat):Cr d i=[jI d[i]!]:=rfl
@[go_sem] def vp (g:Nat) (d:Array Int):Ob:=⟨.arr,g,1,d.size,Cr d⟩
theorem Qn3 {h:List Ob} {lo g:Nat} {d:Array Int} (hl:lo<h.length):(h.set lo (vp g d))[lo]? = some (vp g d):=Qw hl
theorem Qn4 (g:Nat) (d:Array Int) (i n:Nat) (x:Int) (hn:d.size=n) (hi:i<n) :
  (⟨.arr,g,1,n,fun k=>bif k==i then [.raw (.int .i64 x)] else [.raw (.int .i64 d[k]!)]⟩:Ob)=vp g (d.setIfInBounds i x):=by
 subst hn
 unfold vp
 congr 1
 ·simp
 ·funext k
  unfold Cr jI
  by_cases k1:k=i
  ·subst k1
   simp [hi]
  ·have e1:(k==i)=false:=beq_eq_false_iff_ne.mpr k1
   rw[e1]
   by_cases k3:k<d.size
   ·simp [k1,k3,Ne.symm k1,Array.getElem_setIfInBounds]
   ·simp [k1,k3]
theorem Qn5 {h:List Ob} {lo g:Nat} {d:Array Int} (ho:h[lo]? = some (vp g d)) (hz:d.size<1000000000) :
  QH prog 133 h [.ref lo g 0 d.size] (fun dd h'=>dd=.ref lo g 0 (cN (fun i=>d[i]!) d.size).length∧∃row,h'=h.set lo ⟨.arr,g,1,d.size,row⟩∧(∀i,i<(cN (fun i=>d[i]!) d.size).length→row i=[jI ((cN (fun i=>d[i]!) d.size).getD i 0)])∧∀i,∃x,row i=[jI x]):=by
 by_cases c2:d.size<2
 ·have e2:decide ((d.size:Int)<2)=true:=decide_eq_true (by omega)
  have hlen:(cN (fun i=>d[i]!) d.size).length=d.size:=by
   have:d.size=0∨d.size=1:=by omega
   rcases this with h0|h0<;>rw[h0]<;>rfl
  rw[hlen]
  refine QX Qe 200 func133 rfl ntmps133 results133 rfl fun base w pl hb=>?_
  have Qf:=Qd ho
  simp only[go_sem,simprocAttr,Qa,ho,Qf,e2]
  exact⟨Cr d,(Y8 ho).symm,fun i hi=>by rw[Ci _ _ hlen i hi];rfl,fun i=>⟨_,rfl⟩⟩
 ·have e2:decide ((d.size:Int)<2)=false:=decide_eq_false (by omega)
  refine QX Qe 200 func133 rfl ntmps133 results133 rfl fun base w pl hb=>?_
  have Qf:=Qd ho
  simp only[go_sem,simprocAttr,Qa,ho,Qf,e2]
  refine Zv (fun k st=>k+1≤d.size∧(cN (fun i=>d[i]!) (k+1)).length=k+1∧st=⟨[(0,.ref lo g 0 d.size),(3,Qb (k+1:Nat))],h⟩) d.size (s0:=⟨[(0,.ref lo g 0 d.size),(3,Qb (0+1:Nat))],h⟩) (Qk.frame (by simp only[go_sem,simprocAttr])) ⟨by omega,rfl,rfl⟩ ?_
  rintro k _ hk ⟨Qn,ZP,rfl⟩
  by_cases ck:k+1<d.size
  ·have ek:decide (k+1<d.size)=true:=decide_eq_true ck
   have v1:IntKind.i64.wrap (((k+1:Nat):Int) - 1)=((k:Nat):Int):=by rw[wrap64 (by omega) (by omega)];omega
   have v2:IntKind.i64.wrap (((k+1:Nat):Int)+1)=((k+1+1:Nat):Int):=by rw[wrap64 (by omega) (by omega)];omega
   have p0:k<d.size:=by omega
   refine Qc hb ?_
   simp only[go_sem,simprocAttr,Qa,ho,Qf,ek]
   refine QA Qe hb 200 mixed [(0,true),(1,true),(2,true),(3,true),(4,true),(5,true),(6,true),(7,true),(8,true),(9,true)] (by kernel_rfl) (by kernel_rfl) ?_
   simp only[go_sem,simprocAttr,Qa,ho,Qf,v1,ck,p0]
   by_cases VW:d[k+1]! = d[k]!
   ·have Cj:(d[k+1]! == d[k]!)=true:=beq_iff_eq.mpr VW
    have ZS:(cN (fun i=>d[i]!) (k+1+1)).length=k+1:=by
     rw[cN,if_pos ⟨by omega,by simpa using VW⟩,ZP]
    have q0:k+1≤d.size:=by omega
    generalize hN:d.size - (k+1)=N
    have v3:((d.size:Int) - ((k+1:Nat):Int)).toNat=N:=by omega
    simp only[go_sem,simprocAttr,Cj,q0,hN,Qa,ho,Qf,v3]
    refine Zv (fun m st=>∃(d1:Array Int),d1.size=d.size∧m+1≤N∧(cN (fun i=>d[i]!) (k+1+(m+1))).length≤k+1+m∧(∀i,i<(cN (fun i=>d[i]!) (k+1+(m+1))).length→d1[i]! = (cN (fun i=>d[i]!) (k+1+(m+1))).getD i 0)∧(∀j,(cN (fun i=>d[i]!) (k+1+(m+1))).length≤j→d1[j]! = d[j]!)∧st=⟨[(0,.ref lo g 0 d.size),(3,Qb (cN (fun i=>d[i]!) (k+1+(m+1))).length),(4,.ref lo g (k+1) N),(5,Qb (m+1:Nat))],h.set lo (vp g d1)⟩) N (s0:=⟨[(0,.ref lo g 0 d.size),(3,Qb (cN (fun i=>d[i]!) (k+1+(0+1))).length),(4,.ref lo g (k+1) N),(5,Qb (0+1:Nat))],h.set lo (vp g d)⟩) ?_ ⟨d,rfl,by omega,Nat.le_of_eq ZS,fun i hi=>?_,fun j hj=>rfl,rfl⟩ ?_
    ·rw[Y8 ho,ZS]
     exact Qk.frame (by simp only[go_sem,simprocAttr])
    ·rw[cN,if_pos ⟨by omega,by simpa using VW⟩]at hi ⊢
     exact(Ci _ _ ZP i (by omega)).symm
    rintro m _ hm ⟨d1,Zl,hmN,G3,Cm,yg,rfl⟩
    have Zk:=Qn3 (g:=g) (d:=d1) Qf
    have yh:cN (fun i=>d[i]!) (k+1+(m+1+1))=if d[k+1+(m+1)]! = d[k+1+m]! then cN (fun i=>d[i]!) (k+1+(m+1)) else cN (fun i=>d[i]!) (k+1+(m+1))++[d[k+1+(m+1)]!]:=by
     rw[show k+1+(m+1+1)=(k+1+(m+1))+1 by omega,cN]
     simp
    generalize hC:cN (fun i=>d[i]!) (k+1+(m+1))=C at *
    generalize hH:h.set lo (vp g d1)=H at Zk
    have Jp:=Qd Zk
    by_cases cm:m+1<N
    ·have em:decide (m+1<N)=true:=decide_eq_true cm
     have r1:=yg (k+1+(m+1)) (by omega)
     have r2:=yg (k+1+m) (by omega)
     have u1:k+1+(m+1)<d.size:=by omega
     have u2:k+1+m<d.size:=by omega
     have u3:m<N:=by omega
     have w1:IntKind.i64.wrap (((m+1:Nat):Int) - 1)=(m:Int):=by rw[wrap64 (by omega) (by omega)];omega
     have w2:IntKind.i64.wrap (((m+1:Nat):Int)+1)=((m+1+1:Nat):Int):=by rw[wrap64 (by omega) (by omega)];omega
     have w3:IntKind.i64.wrap ((C.length:Int)+1)=((C.length+1:Nat):Int):=by rw[wrap64 (by omega) (by omega)];omega
     refine Qc hb ?_
     simp only[go_sem,simprocAttr,Qa,Zk,Jp,em]
     refine QA Qe hb 200 mixed [(0,true),(1,true),(2,true),(3,true),(4,true),(5,true),(6,true),(7,true),(8,true),(9,true)] (by kernel_rfl) (by kernel_rfl) ?_
     simp only[go_sem,simprocAttr,Qa,Zk,Jp,Zl,w1,cm,u1,u2,u3,r1,r2]
     by_cases cq:d[k+1+(m+1)]! = d[k+1+m]!
     ·have nq:(d[k+1+(m+1)]! != d[k+1+m]!)=false:=by rw[cq];exact bne_self_eq_false _
      rw[if_pos cq]at yh
      simp only[go_sem,simprocAttr,nq,w2]
      rw[yh]
      refine⟨by omega,_,?_,d1,Zl,by omega,by omega,Cm,yg,rfl⟩
      rw[← hH]
      exact Qk.frame (by simp only[go_sem,simprocAttr])
     ·have nq:(d[k+1+(m+1)]! != d[k+1+m]!)=true:=bne_iff_ne.mpr cq
      have u4:C.length<d.size:=by omega
      rw[if_neg cq]at yh
      simp only[go_sem,simprocAttr,nq,w2,w3,Qa,Zk,Jp,Zl,u1,cm,u4,r1]
      rw[Qn4 g d1 _ _ _ Zl u4,yh]
      refine⟨by omega,_,?_,d1.setIfInBounds C.length d[k+1+(m+1)]!,by simp;exact Zl,by omega,by simp;omega,fun i hi=>?_,fun j hj=>?_,rfl⟩
      ·rw[← hH,List.set_set,List.length_append,List.length_singleton]
       exact Qk.frame (by simp only[go_sem,simprocAttr])
      ·simp only[List.length_append,List.length_singleton]at hi
       by_cases e:i=C.length
       ·subst e
        rw[List.getD_eq_getElem?_getD,List.getElem?_append_right (Nat.le_refl _),Nat.sub_self]
        simp [Zl,u4]
       ·rw[List.getD_eq_getElem?_getD,List.getElem?_append_left (by omega),← List.getD_eq_getElem?_getD,← Cm i (by omega)]
        simp [Ne.symm e,Array.getElem!_eq_getD,Array.getD_eq_getD_getElem?,Array.getElem?_setIfInBounds]
      ·simp only[List.length_append,List.length_singleton]at hj
       rw[← yg j (by omega)]
       simp [show C.length≠j by omega,Array.getElem!_eq_getD,Array.getD_eq_getD_getElem?,Array.getElem?_setIfInBounds]
    ·have em:decide (m+1<N)=false:=decide_eq_false cm
     have Ug:k+1+(m+1)=d.size:=by omega
     rw[Ug]at hC
     rw[hC]
     have g1:C.length≤d.size:=by omega
     have g2:((d.size:Int) - (C.length:Int)).toNat=d.size - C.length:=by omega
     refine Qc hb ?_
     simp only[go_sem,simprocAttr,Qa,Zk,Jp,em]
     refine Qc hb ?_
     simp only[go_sem,simprocAttr,Qa,Zk,Jp,Zl,g1,g2]
     refine Sx vX hb rfl Zk rfl rfl rfl rfl (by dsimp only[vp];omega) rfl rfl rfl rfl ?_
     refine Qc hb ?_
     simp only[go_sem,simprocAttr,Qa,Qw Jp,Jp,Zl,g1]
     refine⟨by simp,WC C.length (d.size - C.length) [D.raw (.int .i64 0)] (Cr d1),?_,fun i hi=>?_,fun i=>?_⟩
     ·rw[← hH,List.set_set]
     ·rw[Sv hi]
      show [jI d1[i]!]=_
      rw[Cm i hi]
      rfl
     ·unfold WC
      cases Nat.ble C.length i&&Nat.blt i (C.length+(d.size - C.length))
      ·exact⟨d1[i]!,rfl⟩
      ·exact⟨0,rfl⟩
   ·have Cj:(d[k+1]! == d[k]!)=false:=beq_eq_false_iff_ne.mpr VW
    simp only[go_sem,simprocAttr,Cj,v2]
    refine⟨by omega,_,?_,by omega,?_,rfl⟩
    ·exact Qk.frame (by simp only[go_sem,simprocAttr])
    ·rw[cN,if_neg (by simpa using VW)]
     simp [ZP]
  ·have ek:decide (k+1<d.size)=false:=decide_eq_false ck
   obtain Ja:k+1=d.size:=by omega
   rw[Ja]at ZP
   refine Qc hb ?_
   simp only[go_sem,simprocAttr,Qa,ho,Qf,ek]
   refine Qc hb ?_
   simp only[go_sem,simprocAttr]
   rw[ZP]
   exact⟨rfl,Cr d,(Y8 ho).symm,fun i hi=>by rw[Ci _ _ ZP i hi];rfl,fun i=>⟨_,rfl⟩⟩
theorem Qn6 (n:Nat) (h0:0<n) (hn:n≤1048576):Q8 prog 189 [.nil,Qb n] (fun d h=>∃row,d=.ref 0 0 0 0∧h=[⟨.arr,0,1,0,row⟩]):=by
 have G0:¬ ((n:Int)<0):=by omega
 have j9:((n:Int) > 0):=by omega
 have w1:IntKind.i64.wrap (n:Int)=n:=by rw[IntKind.wrap_i64];omega
 refine QH.cut (R:=fun d h=>d=.ref 0 0 0 0∧h=[⟨.arr,0,1,n,fun _=>[Qb 0]⟩]) ?_ (by rintro d h ⟨rfl,rfl⟩;exact⟨0,_,0,rfl,rfl,Nat.zero_le _,_,rfl,rfl⟩)
 show Q8 _ _ _ _
 refine Zb 1 Qe 200 func189 rfl ntmps189 results189 rfl fun base w hb=>?_
 simp only[go_sem,simprocAttr]
 simp only[decide_eq_false G0,go_sem,simprocAttr]
 refine SA vX rfl rfl rfl ?_
 refine Qc hb ?_
 simp only[go_sem,simprocAttr,wG,Int.sub_zero,w1,decide_eq_true j9,h0]
 refine SA vX rfl rfl rfl ?_
 refine Qc hb ?_
 simp only[go_sem,simprocAttr]
 refine QkH vX hb rfl rfl rfl rfl rfl rfl (by decide) h0 (by omega) (by decide) rfl ?_
 refine Qc hb ?_
 simp only[go_sem,simprocAttr]
theorem Qn7:Q8 prog 189 [.nil,Qb 0] (Ql .nil):=by
 refine Zb 0 Qe 200 func189 rfl ntmps189 results189 rfl fun base w hb=>?_
 simp only[go_sem,simprocAttr]
 refine SA vX rfl rfl rfl ?_
 refine Qc hb ?_
 simp only[go_sem,simprocAttr,wG,Int.sub_zero]
theorem Qn8 (h:List Ob) (l2:Nat) (Xz:Nat→List D) (a b:List Int) (hl:a.length+b.length<1000000) (h2:(h.map Ob.ro)[l2]? = some ⟨.yA,0,1,2,Xz⟩) (e0:Xz 0=[ints a]) (e1:Xz 1=[ints b]) :
  J8 prog 131 h [.ref l2 0 0 2] (fun d g=>Z4 h.length (h++g) d (a++b)):=by
 have w1:IntKind.i64.wrap (a.length:Int)=(a.length:Int):=by rw[IntKind.wrap_i64];omega
 have w2:IntKind.i64.wrap ((a.length:Int)+(b.length:Int))=((a.length+b.length:Nat):Int):=by rw[IntKind.wrap_i64];omega
 have n1:decide ((a.length:Int)<0)=false:=decide_eq_false (by omega)
 have n2:decide (((a.length+b.length:Nat):Int)<0)=false:=decide_eq_false (by omega)
 refine Yk Qe 200 func131 rfl ntmps131 results131 rfl fun base w pl F hF QS hb=>?_
 rw[← hF]at h2
 have Jn:=Qd h2
 simp only[go_sem,simprocAttr,Qa,h2,Jn]
 obtain⟨sz,Kp,Zl,Ji⟩:∃sz:Nat→Int,sz 0=0∧sz 1=a.length∧sz 2=(a.length+b.length:Nat):=⟨fun i=>if i=0 then 0 else if i=1 then a.length else (a.length+b.length:Nat),rfl,rfl,rfl⟩
 refine Zv (fun i s=>s=⟨[(0,.ref l2 0 0 2),(3,.raw (.int .i64 (sz i))),(9,.ref l2 0 0 2),(10,Qb 2),(11,Qb i)],F⟩) 2 (Qk.frame (by simp only[go_sem,simprocAttr,Kp])) rfl ?_
 rintro i s hi rfl
 have Up:i=0∨i=1∨i=2:=by omega
 rcases Up with rfl|rfl|rfl
 ·refine Qc hb ?_
  simp only[go_sem,simprocAttr,Qa,h2,Jn,e0,e1,wG,yi,Kp,Int.zero_add,w1,n1]
  exact⟨_,Qk.frame (fr':=[(0,.ref l2 0 0 2),(3,.raw (.int .i64 (sz 1))),(9,.ref l2 0 0 2),(10,Qb 2),(11,.raw (.int .i64 1))]) (by simp only[go_sem,simprocAttr,Zl]),rfl⟩
 ·refine Qc hb ?_
  simp only[go_sem,simprocAttr,Qa,h2,Jn,e0,e1,wG,yi,Zl,w2,n2]
  exact⟨_,Qk.frame (fr':=[(0,.ref l2 0 0 2),(3,.raw (.int .i64 (sz 2))),(9,.ref l2 0 0 2),(10,Qb 2),(11,.raw (.int .i64 2))]) (by simp only[go_sem,simprocAttr,Ji,tG]),rfl⟩
 ·refine Qc hb ?_
  simp only[go_sem,simprocAttr,Qa,h2,Jn,e0,e1,wG,yi,Ji]
  refine Qc hb ?_
  simp only[go_sem,simprocAttr,Qa,h2,Jn,e0,e1,wG,yi,Ji]
  by_cases hz:a.length+b.length=0
  case' pos=>
   refine QE hb oF rfl ?_ Qn7 (Ql.flat rfl) rfl fun d h hR=>?_
   ·simp only[go_sem,simprocAttr,Qa,h2,Jn,hz]
   obtain⟨rfl,rfl⟩:=hR
   refine Qc hb ?_
   simp only[go_sem,simprocAttr,Qa,h2,Jn,hz]
   refine xu (Qk.wV 6 1 (fun _=>[]) (by simp only[go_sem,simprocAttr])) ?_
   simp only[go_sem,simprocAttr,Qa]
   generalize (fun _:Nat=>([]:List D))=tP
  case' neg=>
   refine QE hb oF rfl ?_ (Qn6 (a.length+b.length) (by omega) (by omega)) (fun d h ⟨row,h1,h2⟩=>⟨by rw[h1];rfl,fun o ho=>by rw[h2]at ho;simp at ho;subst ho;exact fun i hi=>absurd hi (Nat.not_lt_zero i)⟩) rfl fun d h' hR=>?_
   ·simp only[go_sem,simprocAttr,Qa]
   obtain⟨row,rfl,rfl⟩:=hR
   refine Qc hb ?_
   simp only[go_sem,simprocAttr,Qa,h2,Jn]
   generalize (fun i=>zj F.length (row i))=tP
  all_goals
   refine Zv (fun i s=>∃gn m row,(i=0→m=0)∧(i=1→m=a.length∧∀k,k<a.length→row k=[Qb (a.getD k 0)])∧(i=2→m=a.length+b.length∧∀k,k<a.length+b.length→row k=[Qb ((a++b).getD k 0)])∧s=⟨[(6,.ref F.length gn 0 m),(25,.ref l2 0 0 2),(26,Qb 2),(27,Qb i)],F++[⟨.arr,gn,1,m,row⟩]⟩) 2
    (s0:=⟨[(6,.ref F.length 0 0 0),(25,.ref l2 0 0 2),(26,Qb 2),(27,Qb 0)],F++[⟨.arr,0,1,0,tP⟩]⟩) (Qk.frame (by simp only[go_sem,simprocAttr])) ⟨0,0,_,fun _=>rfl,fun h=>absurd h (by decide),fun h=>absurd h (by decide),rfl⟩ ?_
   rintro i s hi ⟨gn,m,row,FQ,Uq,KH,rfl⟩
   have Up:i=0∨i=1∨i=2:=by omega
   have Co:a.length≤4294967295:=by omega
   have wJ:a.length+b.length≤4294967295:=by omega
   rcases Up with rfl|rfl|rfl
   ·obtain rfl:m=0:=FQ rfl
    refine Qc hb ?_
    simp only[go_sem,simprocAttr,Qa,h2,Jn,e0,e1,wG,yi,Co]
    refine⟨by omega,_,Qk.frame (fr':=[(6,.ref F.length (gn+1) 0 a.length),(25,.ref l2 0 0 2),(26,Qb 2),(27,.raw (.int .i64 1))]) (by simp only[go_sem,simprocAttr,yi]),_,_,_,⟨rfl,fun k hk=>?_⟩,rfl⟩
    rw[w6 (Nat.zero_le k)];rfl
   ·obtain⟨rfl,hr⟩:=Uq rfl
    refine Qc hb ?_
    simp only[go_sem,simprocAttr,Qa,h2,Jn,e0,e1,wG,yi,Co,wJ]
    refine⟨by omega,_,Qk.frame (fr':=[(6,.ref F.length (gn+1) 0 (a.length+b.length)),(25,.ref l2 0 0 2),(26,Qb 2),(27,.raw (.int .i64 2))]) (by simp only[go_sem,simprocAttr,tG]),_,_,_,⟨rfl,fun k hk=>?_⟩,rfl⟩
    by_cases h1:k<a.length
    ·rw[yL h1,Nat.zero_add,hr k h1,List.getD_eq_getElem?_getD,List.getD_eq_getElem?_getD,List.getElem?_append_left h1];rfl
    ·rw[w6 (by omega),List.getD_eq_getElem?_getD,List.getElem?_append_right (by omega),← List.getD_eq_getElem?_getD];rfl
   ·obtain⟨rfl,j0⟩:=KH rfl
    refine Qc hb ?_
    simp only[go_sem,simprocAttr,Qa,h2,Jn,e0,e1,wG,yi]
    refine Qc hb ?_
    simp only[go_sem,simprocAttr,Qa,h2,Jn,e0,e1,wG,yi]
    refine⟨_,rfl,.inr ⟨h.length,gn,0,row,by rw[QS,List.length_append],⟨Nat.le_refl _,rfl⟩,?_,fun i hi=>by rw[Nat.zero_add];exact j0 i (by simpa using hi)⟩⟩
    rw[Kc rfl,List.length_append,Nat.zero_add];rfl
theorem Qn9 (h:List Ob) (l2:Nat) (Xz:Nat→List D) (a b:List Int) (hl:a.length+b.length<1000000) (h2:(h.map Ob.ro)[l2]? = some ⟨.yA,0,1,2,Xz⟩) (e0:Xz 0=[ints a]) (e1:Xz 1=[ints b]) :
  QP prog 131 h [.ref l2 0 0 2] (fun d=>d=ints (a++b)):=Z4.closed (Qn8 h l2 Xz a b hl h2 e0 e1)
deriving instance DecidableEq for Cv
deriving instance DecidableEq for Qj
def KC (A B:List Qj) (id:Int):Bool:=decide (Qr A id≠Qr B id)
def zM (A B:List Qj):List Int:=(A.map (·.iD)++B.map (·.iD)).filter (KC A B)
def XA (L:List Int):List Int:=cN (fun i=>L.getD i 0) L.length
def Je (A B:List Qj):List Int:=XA (sorted (zM A B))
theorem Qoa {L:List Int} {x:Int}:x∈XA L↔x∈L:=by
 unfold XA
 rw[Uf]
 constructor
 ·rintro⟨i,hi,rfl⟩
  rw[List.getD_eq_getElem?_getD,List.getElem?_eq_getElem hi]
  exact List.getElem_mem hi
 ·intro h
  obtain⟨i,hi,rfl⟩:=List.getElem_of_mem h
  exact⟨i,hi,by rw[List.getD_eq_getElem?_getD,List.getElem?_eq_getElem hi];rfl⟩
theorem Qob {L:List Int} {x:Int}:x∈sorted L↔x∈L:=(List.mergeSort_perm _ _).mem_iff
theorem Cs {A B:List Qj} {id:Int}:id∈Je A B↔Qr A id≠Qr B id:=by
 unfold Je
 rw[Qoa,Qob]
 unfold zM
 rw[List.mem_filter]
 unfold KC
 rw[decide_eq_true_eq]
 constructor
 ·exact fun h=>h.2
 ·intro h
  refine⟨?_,h⟩
  rw[List.mem_append]
  cases ha:Qr A id with
  | some c=>
   refine .inl (List.mem_map.2 ⟨c,List.mem_of_find?_eq_some ha,?_⟩)
   have:=List.find?_some ha;simpa using this
  | none=>
   cases hb:Qr B id with
   | some c=>
    refine .inr (List.mem_map.2 ⟨c,List.mem_of_find?_eq_some hb,?_⟩)
    have:=List.find?_some hb;simpa using this
   | none=>rw[ha,hb]at h;exact absurd rfl h
theorem tQ (x y:Qj):(x.iD==y.iD&&(x.parent==y.parent&&(x.leaf==y.leaf&&(x.rt.m1==y.rt.m1&&(x.rt.d==y.rt.d&&(x.rt.m2==y.rt.m2&&(x.ls.m1==y.ls.m1&&(x.ls.d==y.ls.d&&(x.ls.m2==y.ls.m2&&(x.ul.m1==y.ul.m1&&(x.ul.d==y.ul.d&&(x.ul.m2==y.ul.m2&&(x.Q9==y.Q9&&x.bytes==y.bytes)))))))))))))=decide (x=y):=by
 rw[Bool.eq_iff_iff]
 simp only[Bool.and_eq_true,beq_iff_eq,decide_eq_true_eq]
 constructor
 ·rintro⟨h1,h2,h3,h4,h5,h6,h7,h8,h9,YJ,Dd,FO,h13,h14⟩
  obtain⟨a1,a2,a3,⟨a4,a5,a6⟩,⟨a7,a8,a9⟩,⟨b1,b2,b3⟩,b4,b5⟩:=x
  obtain⟨c1,c2,c3,⟨c4,c5,c6⟩,⟨c7,c8,c9⟩,⟨d1,d2,d3⟩,d4,d5⟩:=y
  simp_all
 ·rintro rfl
  simp
theorem EO:(true==false)=false:=rfl
theorem EP:(false==true)=false:=rfl
theorem Qoc:Q8 prog 133 [.nil] (Ql .nil):=by
 refine Zb 0 Qe 200 func133 rfl ntmps133 results133 rfl fun base w hb=>?_
 simp only[go_sem,simprocAttr]
theorem Qod {h:List Ob} {lo g:Nat} {Z:List Int} (ho:h[lo]? = some (vp g Z.toArray)) (hz:Z.length<1000000000) :
  QH prog 133 h [.ref lo g 0 Z.length] (fun dd h'=>dd=.ref lo g 0 (XA Z).length∧∃row,h'=h.set lo ⟨.arr,g,1,(XA Z).length,row⟩∧∀i,i<(XA Z).length→row i=[Qb ((XA Z).getD i 0)]):=by
 have hcN:cN (fun i=>Z.toArray[i]!) Z.toArray.size=XA Z:=by
  unfold XA
  congr 1
  funext i
  simp
 have hc:=Qn5 ho (by simpa using hz)
 rw[hcN]at hc
 have hl:=Qd ho
 refine QH.cut (R:=fun dd h'=>dd=.ref lo g 0 (XA Z).length∧∃row,h'=h.set lo ⟨.arr,g,1,Z.toArray.size,row⟩∧(∀i,i<(XA Z).length→row i=[jI ((XA Z).getD i 0)])∧∀i,∃x,row i=[jI x]) (by simpa using hc) ?_
 rintro d h' ⟨rfl,row,rfl,h1,_⟩
 refine⟨lo,_,(XA Z).length,Qw hl,rfl,?_,rfl,row,by rw[List.set_set],h1⟩
 have:=EL (fun i=>Z.getD i 0) Z.length
 show (XA Z).length≤Z.toArray.size
 simpa [XA] using this
structure vq (F:List Ob) (A B:List Qj) (t1 t2:Nat) (L:List Int) (k:Nat) (s:St):Prop where
 ex:∃d H,Z4 F.length H d ((L.take k).filter (KC A B))∧JR F H∧s=⟨[(0,.ptr t1 0 0 0),(1,.ptr t2 0 0 0),(5,d),(17,ints L),(18,Qb L.length),(19,Qb k)],H⟩
theorem vq.of {F:List Ob} {A B:List Qj} {t1 t2:Nat} {L:List Int} {k:Nat} {d:D} {H:List Ob} (hs:Z4 F.length H d ((L.take k).filter (KC A B))) (hx:JR F H):vq F A B t1 t2 L k ⟨[(0,.ptr t1 0 0 0),(1,.ptr t2 0 0 0),(5,d),(17,ints L),(18,Qb L.length),(19,Qb k)],H⟩:=⟨⟨d,H,hs,hx,rfl⟩⟩
theorem Qof {h:List Ob} {t1 t2:Nat} {A B:List Qj} (RA:Kz h t1 A) (RB:Kz h t2 B) (hA:A.length<100000) (hB:B.length<100000) :
  J8 prog 51 h [.ptr t1 0 0 0,.ptr t2 0 0 0] (fun d g=>Z4 h.length (h++g) d (Je A B)):=by
 refine Yk Qe 200 func51 rfl ntmps51 results51 rfl fun base w pl F hF QS hb=>?_
 simp only[go_sem,simprocAttr,Qa]
 have HJ:Kz F t1 A:=RA.more (Jk hF)
 have HK:Kz F t2 B:=RB.more (Jk hF)
 refine QK hb Gy rfl ?_ (NA HJ (by omega)) rfl fun d hR=>?_
 ·simp only[go_sem,simprocAttr,Qa]
 subst hR
 refine Qc hb ?_
 simp only[go_sem,simprocAttr,Qa]
 refine QK hb Gy rfl ?_ (NA HK (by omega)) rfl fun d hR=>?_
 ·simp only[go_sem,simprocAttr,Qa]
 subst hR
 refine Qc hb ?_
 simp only[go_sem,simprocAttr,Qa]
 obtain⟨L,hL⟩:∃L,L=A.map (·.iD)++B.map (·.iD):=⟨_,rfl⟩
 have hLl:L.length<200000:=by rw[hL];simp;omega
 have Kf:∀Xz:Nat→List D,Xz 0=[ints (A.map (·.iD))]→Xz 1=[ints (B.map (·.iD))]→QP prog 131 (F++[⟨.arr,0,1,2,Xz⟩]) [.ref F.length 0 0 2] (fun d=>d=ints L):=fun Xz e0 e1=>by
  rw[hL]
  exact Qn9 _ F.length Xz _ _ (by simp;omega) (ZA (show (F++[⟨.arr,0,1,2,Xz⟩])[F.length]? = some ⟨.arr,0,1,2,Xz⟩ by rw[Kc rfl];rfl)) e0 e1
 refine QK hb QiT rfl ?_ (Kf _ (by exact rfl) (by exact rfl)) rfl fun d hR=>?_
 ·simp only[go_sem,simprocAttr,Qa]
 subst hR
 refine Qc hb ?_
 simp only[go_sem,simprocAttr,Qa]
 refine Zv (vq F A B t1 t2 L) L.length (s0:=⟨[(0,.ptr t1 0 0 0),(1,.ptr t2 0 0 0),(5,.nil),(17,ints L),(18,Qb L.length),(19,Qb 0)],_⟩) (Qk.frame (by simp only[go_sem,simprocAttr])) ⟨⟨_,_,.inl ⟨rfl,by simp⟩,⟨_,rfl⟩,rfl⟩⟩ ?_
 rintro k _ hk ⟨d,H,hs,hx,rfl⟩
 have RA3:∀g,Kz (H++g) t1 A:=fun g=>by
  obtain⟨x,rfl⟩:=hx
  exact HJ.more fun l o e=>by rw[List.append_assoc];exact wm l o e
 have RB3:∀g,Kz (H++g) t2 B:=fun g=>by
  obtain⟨x,rfl⟩:=hx
  exact HK.more fun l o e=>by rw[List.append_assoc];exact wm l o e
 have RA4:Kz H t1 A:=by have:=RA3 [];rwa [List.append_nil]at this
 by_cases Qn:k<L.length
 ·have dk:=decide_eq_true Qn
  obtain⟨id,QQ⟩:∃id,id=L.getD k 0:=⟨_,rfl⟩
  have Zj:(L.take (k+1)).filter (KC A B)=(L.take k).filter (KC A B)++(if KC A B id then [id] else []):=by
   rw[getD_take L 0 k Qn,List.filter_append,← QQ]
   cases hq:KC A B id<;>simp [hq]
  have ga:=Ep RA4 id
  have gb:=fun g=>Ep (RB3 g) id
  have Q3:=JX (show k<4611686018427387904 by omega)
  cases ha:Qr A id with
  | some x=>
   rw[ha]at ga
   simp only[Option.getD_some,Option.isSome_some,if_true]at ga
   cases ZZ:Qr B id with
   | some y=>
    rw[ZZ]at gb
    simp only[Option.getD_some,Option.isSome_some,if_true]at gb
    refine Qc hb ?_
    simp only[go_sem,simprocAttr,Qa,dk,Qn,← QQ]
    refine QK hb YQ rfl ?_ ga rfl fun d hR=>?_
    ·simp only[go_sem,simprocAttr,Qa]
    subst hR
    refine Qc hb ?_
    simp only[go_sem,simprocAttr,Qa]
    refine QK hb YQ rfl ?_ (gb _) rfl fun d hR=>?_
    ·simp only[go_sem,simprocAttr,Qa,bne,tQ]
    subst hR
    refine Qc hb ?_
    simp only[go_sem,simprocAttr,Qa,bne,tQ]
    by_cases e:x=y
    ·have hq:KC A B id=false:=by unfold KC;rw[ha,ZZ,e];simp
     have dx:=decide_eq_true e
     simp only[go_sem,simprocAttr,Qa,dx]
     refine⟨Qn,_,Qk.frame (fr':=[(0,.ptr t1 0 0 0),(1,.ptr t2 0 0 0),(5,d),(17,ints L),(18,Qb L.length),(19,Qb (k+1:Nat))]) (by simp only[go_sem,simprocAttr,Q3]),vq.of (by rw[Zj,hq,if_neg (by decide),List.append_nil];exact hs.app _) (hx.app _)⟩
    ·have hq:KC A B id=true:=by unfold KC;rw[ha,ZZ];simpa using e
     have dx:=decide_eq_false e
     rcases hs with ⟨rfl,Kp⟩|⟨lo,g,off,row,rfl,⟨Zr,rfl⟩,ho,hr⟩
     ·simp only[go_sem,simprocAttr,Qa,dx,Go.undef]
      refine⟨Qn,_,Qk.frame (fr':=[(0,.ptr t1 0 0 0),(1,.ptr t2 0 0 0),(5,.ref (H.length+3) 0 0 1),(17,ints L),(18,Qb L.length),(19,Qb (k+1:Nat))]) (by simp only[go_sem,simprocAttr,Q3]),vq.of (.inr ⟨H.length+3,0,0,fun _=>[Qb id],?_,⟨by have:=hx.len;omega,rfl⟩,?_,?_⟩) (hx.app _)⟩
      ·rw[Zj,Kp,hq];rfl
      ·rw[Zj,Kp,hq,KW rfl];rfl
      ·rw[Zj,Kp,hq]
       intro i hi
       obtain rfl:i=0:=by simp at hi;omega
       rfl
     ·have Qf:=Qd ho
      rw[Nat.zero_add]at ho
      simp only[go_sem,simprocAttr,Qa,dx,Go.undef,ho,Qf]
      refine⟨by have:=List.length_filter_le (KC A B) (L.take k);simp at this;omega,Qn,_,Qk.frame (fr':=[(0,.ptr t1 0 0 0),(1,.ptr t2 0 0 0),(5,.ref lo (g+1) 0 (((L.take k).filter (KC A B)).length+1)),(17,ints L),(18,Qb L.length),(19,Qb (k+1:Nat))]) (by simp only[go_sem,simprocAttr,Q3]),vq.of (.inr ⟨lo,g+1,0,Jx ((L.take k).filter (KC A B)).length 0 row (fun _=>[Qb id]),?_,⟨Zr,rfl⟩,?_,?_⟩) ((hx.set Zr _).app _)⟩
      ·rw[Zj,hq];simp
      ·rw[Zj,hq,QU (by simpa using Qf),Qw Qf];simp [Qb]
      ·rw[Zj,hq];exact BN hr
   | none=>
    rw[ZZ]at gb
    simp only[Option.isSome_none,Bool.false_eq_true,if_false]at gb
    have hq:KC A B id=true:=by unfold KC;rw[ha,ZZ];simp
    refine Qc hb ?_
    simp only[go_sem,simprocAttr,Qa,dk,Qn,← QQ]
    refine QK hb YQ rfl ?_ ga rfl fun d hR=>?_
    ·simp only[go_sem,simprocAttr,Qa]
    subst hR
    refine Qc hb ?_
    simp only[go_sem,simprocAttr,Qa]
    refine QK hb YQ rfl ?_ (gb _) rfl fun d hR=>?_
    ·simp only[go_sem,simprocAttr,Qa,bne,Go.undef,EO,EP]
    subst hR
    refine Qc hb ?_
    simp only[go_sem,simprocAttr,Qa,bne,Go.undef,EO,EP]
    rcases hs with ⟨rfl,Kp⟩|⟨lo,g,off,row,rfl,⟨Zr,rfl⟩,ho,hr⟩
    ·(try simp only[go_sem,simprocAttr,Qa,Go.undef])
     refine⟨Qn,_,Qk.frame (fr':=[(0,.ptr t1 0 0 0),(1,.ptr t2 0 0 0),(5,.ref (H.length+3) 0 0 1),(17,ints L),(18,Qb L.length),(19,Qb (k+1:Nat))]) (by simp only[go_sem,simprocAttr,Q3]),vq.of (.inr ⟨H.length+3,0,0,fun _=>[Qb id],?_,⟨by have:=hx.len;omega,rfl⟩,?_,?_⟩) (hx.app _)⟩
     ·rw[Zj,Kp,hq];rfl
     ·rw[Zj,Kp,hq,KW rfl];rfl
     ·rw[Zj,Kp,hq]
      intro i hi
      obtain rfl:i=0:=by simp at hi;omega
      rfl
    ·have Qf:=Qd ho
     rw[Nat.zero_add]at ho
     simp only[go_sem,simprocAttr,Qa,Go.undef,ho,Qf]
     refine⟨by have:=List.length_filter_le (KC A B) (L.take k);simp at this;omega,Qn,_,Qk.frame (fr':=[(0,.ptr t1 0 0 0),(1,.ptr t2 0 0 0),(5,.ref lo (g+1) 0 (((L.take k).filter (KC A B)).length+1)),(17,ints L),(18,Qb L.length),(19,Qb (k+1:Nat))]) (by simp only[go_sem,simprocAttr,Q3]),vq.of (.inr ⟨lo,g+1,0,Jx ((L.take k).filter (KC A B)).length 0 row (fun _=>[Qb id]),?_,⟨Zr,rfl⟩,?_,?_⟩) ((hx.set Zr _).app _)⟩
     ·rw[Zj,hq];simp
     ·rw[Zj,hq,QU (by simpa using Qf),Qw Qf];simp [Qb]
     ·rw[Zj,hq];exact BN hr
  | none=>
   rw[ha]at ga
   simp only[Option.isSome_none,Bool.false_eq_true,if_false]at ga
   cases ZZ:Qr B id with
   | some y=>
    rw[ZZ]at gb
    simp only[Option.getD_some,Option.isSome_some,if_true]at gb
    have hq:KC A B id=true:=by unfold KC;rw[ha,ZZ];simp
    refine Qc hb ?_
    simp only[go_sem,simprocAttr,Qa,dk,Qn,← QQ]
    refine QK hb YQ rfl ?_ ga rfl fun d hR=>?_
    ·simp only[go_sem,simprocAttr,Qa]
    subst hR
    refine Qc hb ?_
    simp only[go_sem,simprocAttr,Qa]
    refine QK hb YQ rfl ?_ (gb _) rfl fun d hR=>?_
    ·simp only[go_sem,simprocAttr,Qa,bne,Go.undef,EO,EP]
    subst hR
    refine Qc hb ?_
    simp only[go_sem,simprocAttr,Qa,bne,Go.undef,EO,EP]
    rcases hs with ⟨rfl,Kp⟩|⟨lo,g,off,row,rfl,⟨Zr,rfl⟩,ho,hr⟩
    ·(try simp only[go_sem,simprocAttr,Qa,Go.undef])
     refine⟨Qn,_,Qk.frame (fr':=[(0,.ptr t1 0 0 0),(1,.ptr t2 0 0 0),(5,.ref (H.length+3) 0 0 1),(17,ints L),(18,Qb L.length),(19,Qb (k+1:Nat))]) (by simp only[go_sem,simprocAttr,Q3]),vq.of (.inr ⟨H.length+3,0,0,fun _=>[Qb id],?_,⟨by have:=hx.len;omega,rfl⟩,?_,?_⟩) (hx.app _)⟩
     ·rw[Zj,Kp,hq];rfl
     ·rw[Zj,Kp,hq,KW rfl];rfl
     ·rw[Zj,Kp,hq]
      intro i hi
      obtain rfl:i=0:=by simp at hi;omega
      rfl
    ·have Qf:=Qd ho
     rw[Nat.zero_add]at ho
     simp only[go_sem,simprocAttr,Qa,Go.undef,ho,Qf]
     refine⟨by have:=List.length_filter_le (KC A B) (L.take k);simp at this;omega,Qn,_,Qk.frame (fr':=[(0,.ptr t1 0 0 0),(1,.ptr t2 0 0 0),(5,.ref lo (g+1) 0 (((L.take k).filter (KC A B)).length+1)),(17,ints L),(18,Qb L.length),(19,Qb (k+1:Nat))]) (by simp only[go_sem,simprocAttr,Q3]),vq.of (.inr ⟨lo,g+1,0,Jx ((L.take k).filter (KC A B)).length 0 row (fun _=>[Qb id]),?_,⟨Zr,rfl⟩,?_,?_⟩) ((hx.set Zr _).app _)⟩
     ·rw[Zj,hq];simp
     ·rw[Zj,hq,QU (by simpa using Qf),Qw Qf];simp [Qb]
     ·rw[Zj,hq];exact BN hr
   | none=>
    rw[ZZ]at gb
    simp only[Option.isSome_none,Bool.false_eq_true,if_false]at gb
    have hq:KC A B id=false:=by unfold KC;rw[ha,ZZ];simp
    refine Qc hb ?_
    simp only[go_sem,simprocAttr,Qa,dk,Qn,← QQ]
    refine QK hb YQ rfl ?_ ga rfl fun d hR=>?_
    ·simp only[go_sem,simprocAttr,Qa]
    subst hR
    refine Qc hb ?_
    simp only[go_sem,simprocAttr,Qa]
    refine QK hb YQ rfl ?_ (gb _) rfl fun d hR=>?_
    ·simp only[go_sem,simprocAttr,Qa,bne,Go.undef,EO,EP]
    subst hR
    refine Qc hb ?_
    simp only[go_sem,simprocAttr,Qa,bne,Go.undef,EO,EP]
    refine⟨Qn,_,Qk.frame (fr':=[(0,.ptr t1 0 0 0),(1,.ptr t2 0 0 0),(5,d),(17,ints L),(18,Qb L.length),(19,Qb (k+1:Nat))]) (by simp only[go_sem,simprocAttr,Q3]),vq.of (by rw[Zj,hq,if_neg (by decide),List.append_nil];exact hs.app _) (hx.app _)⟩
 ·have ZE:k=L.length:=by omega
  have dk:=decide_eq_false Qn
  rw[ZE,List.take_length]at hs
  have xQ:zM A B=L.filter (KC A B):=by rw[hL];rfl
  rw[← xQ]at hs
  have QuZ:(zM A B).length<200000:=by have:=List.length_filter_le (KC A B) L;rw[xQ];omega
  rcases hs with ⟨rfl,Kp⟩|⟨lo,g,off,row,rfl,⟨Zr,rfl⟩,ho,hr⟩
  ·refine Qc hb ?_
   simp only[go_sem,simprocAttr,Qa,dk]
   refine Qc hb ?_
   simp only[go_sem,simprocAttr,Qa]
   refine QT hb MM rfl ?_ (pn H) rfl fun d h hR=>?_
   ·simp only[go_sem,simprocAttr]
   obtain⟨rfl,rfl⟩:=hR
   refine Qc hb ?_
   simp only[go_sem,simprocAttr]
   have ht:Je A B=[]:=by unfold Je;rw[Kp];simp [sorted,XA,cN]
   refine QE hb ou rfl ?_ Qoc (Ql.flat rfl) rfl fun d h hR=>?_
   ·simp only[go_sem,simprocAttr,Qa]
   obtain⟨rfl,rfl⟩:=hR
   refine Qc hb ?_
   simp only[go_sem,simprocAttr,Qa]
   exact Z4.done QS hx (.inl ⟨rfl,ht⟩)
  ·have Qf:=Qd ho
   refine Qc hb ?_
   simp only[go_sem,simprocAttr,Qa,dk]
   refine Qc hb ?_
   simp only[go_sem,simprocAttr,Qa]
   refine QT hb MM rfl ?_ (pk ho (by omega) hr (by omega)) rfl fun d h hR=>?_
   ·simp only[go_sem,simprocAttr]
   obtain⟨rfl,rfl⟩:=hR
   refine Qc hb ?_
   simp only[go_sem,simprocAttr]
   obtain⟨Z,hZ⟩:∃Z,Z=sorted (zM A B):=⟨_,rfl⟩
   have hZl:Z.length=(zM A B).length:=by rw[hZ,Al]
   rw[← hZ,← hZl]
   refine Mx (Qk.rows lo (Cr Z.toArray) (Qw Qf) (fun i hi=>?_)) ?_
   ·dsimp only at hi ⊢
    unfold YV
    rw[if_pos ⟨Nat.zero_le _,by omega⟩,Nat.sub_zero,Qn2]
    simp [jI]
   rw[List.set_set]
   dsimp only
   have ht:XA Z=Je A B:=by rw[hZ];rfl
   have hc:=Qod (h:=H.set lo (vp g Z.toArray)) (lo:=lo) (g:=g) (Z:=Z) (Qw Qf) (by omega)
   rw[ht]at hc
   have ZC:Z.toArray.size=Z.length:=by simp
   rw[← ZC]
   refine QT hb ou rfl ?_ (ZC▸hc) rfl fun d h hR=>?_
   ·simp only[go_sem,simprocAttr]
   obtain⟨rfl,K3,rfl,HL⟩:=hR
   refine Qc hb ?_
   simp only[go_sem,simprocAttr]
   rw[List.set_set]
   refine Z4.done QS (hx.set Zr _) (.inr ⟨lo,g,0,K3,rfl,⟨Zr,rfl⟩,by rw[Qw Qf,Nat.zero_add],fun i hi=>by rw[Nat.zero_add];exact HL i hi⟩)
theorem tR {h:List Ob} {t1 t2:Nat} {A B:List Qj} (RA:Kz h t1 A) (RB:Kz h t2 B) (hA:A.length<100000) (hB:B.length<100000) :
  QP prog 51 h [.ptr t1 0 0 0,.ptr t2 0 0 0] (fun d=>d=ints (Je A B)):=Z4.closed (Qof RA RB hA hB)
def qV (T:List Qj):Prop:=∀c∈T,Qj.Ok c
theorem Cv.Ok.nn {c:Cv} (h:Cv.Ok c):c.Nn:=⟨(wf_u64 h.1).1,(wf_u64 h.2.1).1,(wf_u64 h.2.2.1).1⟩
theorem Qj.Ok.nn {c:Qj} (h:Qj.Ok c):c.Nn:=⟨h.2.2.2.1.nn,h.2.2.2.2.1.nn,h.2.2.2.2.2.1.nn⟩
theorem Cv.Ok.lt {c:Cv} (h:Cv.Ok c):(Jq c).Lt:=by
 have h1:=wf_u64 h.1
 have h2:=wf_u64 h.2.1
 have h3:=wf_u64 h.2.2.1
 refine⟨?_,?_,?_⟩<;>(simp only[Jq];omega)
theorem qV.Qok {T:List Qj} (h:qV T):∀c∈Wa T,c.Lt:=fun c hc=>by
 obtain⟨x,hx,rfl⟩:=List.mem_map.1 hc
 exact(h x (List.mem_filter.1 hx).1).2.2.2.1.lt
theorem qV.one {T:List Qj} (h:qV T) (hr:KX T) {c:ZN} (hc:ZN.Ok c):qV (vg T c):=by
 unfold vg
 split
 ·split
  ·exact fun d hd=>h d (List.mem_filter.1 hd).1
  ·intro d hd
   rcases jt hr c.cls hd with rfl|hd
   ·exact hc.2.1
   ·exact h d hd
 ·exact h
def VO:List Qj→List ZN→Nat→Int × Nat × List Qj
 | T,[],_=>(0,0,T)
 | T,c::l,i=>if qS T c≠0 then (qS T c,i,T) else VO (vg T c) l (i+1)
def jG (T:List Qj) (t:Int) (l:List ZN):Int:=
 if 32<l.length then 2 else if (VO T l 0).1≠0 then (VO T l 0).1 else wH t (Wa (VO T l 0).2.2)
def ER (T:List Qj) (l:List ZN):Nat:=if 32<l.length then 0 else if (VO T l 0).1≠0 then (VO T l 0).2.1 else 0
def Wq (T:List Qj) (l:List ZN):List Qj:=(VO T l 0).2.2
theorem tS:∀(l:List ZN) (T:List Qj) (i:Nat),JD T→qV T→(∀c∈l,ZN.Ok c)→JD (VO T l i).2.2∧qV (VO T l i).2.2
 | [],T,i,I,K,_=>⟨I,K⟩
 | c::l,T,i,I,K,hc=>by
  rw[VO]
  split
  ·exact⟨I,K⟩
  ·exact tS l _ _ (I.one c) (K.one I.rising (hc c (by simp))) fun d hd=>hc d (by simp [hd])
theorem Qol {T0 T:List Qj} {l:List ZN} {k:Nat} (hk:k<l.length) (h:VO T0 l 0=VO T (l.drop k) k):VO T0 l 0=if qS T (l.getD k default)≠0 then (qS T (l.getD k default),k,T) else VO (vg T (l.getD k default)) (l.drop (k+1)) (k+1):=by
 rw[h,List.drop_eq_getElem_cons hk,VO,List.getD_eq_getElem?_getD,List.getElem?_eq_getElem hk]
 rfl
@[go_sem] def HM (l:List ZN):D:=.imm 15 l.length (ZN.rows l)
theorem Qom {S:Nat→Prop} {h:List Ob} {t:Nat} {T:List Qj} (R:Ke S h t T) (I:JD T) (K:qV T) (n:Int) (Jc:1≤n) (Va:n≤65536) (l:List ZN) (hc:∀c∈l,ZN.Ok c) (hl:l.length<1000000) :
  QH prog 50 h [.ptr t 0 0 0,Qb n,HM l] (fun d h'=>∃p,d=.tup [if jG T n l=0 then .ptr p 0 0 0 else .raw (.pointer none),Qb (ER T l),Qb (jG T n l)]∧(jG T n l=0→Ke (fun l=>h.length≤l) h' p (Wq T l))∧∃g,h'=h++g):=by
 have d1:decide (n<1)=false:=decide_eq_false (by omega)
 have d2:decide (65536<n)=false:=decide_eq_false (by omega)
 by_cases N8:32<l.length
 ·have d3:decide ((32:Int)<(l.length:Int))=true:=decide_eq_true (by omega)
  have e1:jG T n l=2:=if_pos N8
  have e2:ER T l=0:=if_pos N8
  refine QX Qe 200 func50 rfl ntmps50 results50 rfl fun base w pl hb=>?_
  simp only[go_sem,simprocAttr,Qa,d1,d2,d3]
  rw[e1,e2]
  exact⟨0,rfl,(fun h=>absurd h (by decide)),[],(List.append_nil _).symm⟩
 ·have d3:decide ((32:Int)<(l.length:Int))=false:=decide_eq_false (by omega)
  refine QX Qe 200 func50 rfl ntmps50 results50 rfl fun base w pl hb=>?_
  simp only[go_sem,simprocAttr,Qa,d1,d2,d3]
  refine QT hb n9 rfl ?_ (sD R) rfl fun d h hR=>?_
  ·simp only[go_sem,simprocAttr]
  obtain⟨rfl,R2,g,rfl,hg⟩:=hR
  refine Qc hb ?_
  simp only[go_sem,simprocAttr]
  have Xn:ER T l=if (VO T l 0).1≠0 then (VO T l 0).2.1 else 0:=if_neg N8
  have N9:jG T n l=if (VO T l 0).1≠0 then (VO T l 0).1 else wH n (Wa (VO T l 0).2.2):=if_neg N8
  refine Zv (fun k st=>∃Tk H,Ke (fun l=>h.length≤l) H (h.length+1) Tk∧JD Tk∧qV Tk∧VO T l 0=VO Tk (l.drop k) k∧(∃g,H=h++g)∧st=⟨[(1,Qb n),(9,.ptr (h.length+1) 0 0 0),(30,HM l),(31,Qb l.length),(32,Qb k)],H⟩) l.length (s0:=⟨[(1,Qb n),(9,.ptr (h.length+1) 0 0 0),(30,HM l),(31,Qb l.length),(32,Qb 0)],h++g⟩) (Qk.frame (by simp only[go_sem,simprocAttr])) ⟨T,_,R2,I,K,rfl,⟨_,rfl⟩,rfl⟩ ?_
  rintro k _ hk ⟨Tk,H,Rk,Ik,Kk,vQ,⟨g2,rfl⟩,rfl⟩
  by_cases Qn:k<l.length
  ·have dk:=decide_eq_true Qn
   have Zj:=Qol Qn vQ
   have tT:ZN.Ok (l.getD k default):=hc _ (jo l default k Qn)
   obtain⟨x,hx⟩:∃x,x=l.getD k default:=⟨_,rfl⟩
   rw[← hx]at Zj tT
   have Lu:=fun g=>(show QH prog 128 (h++(g2++g)) [.ptr (h.length+1) 0 0 0,.agg x.cells] (fun d h'=>d=Qb (qS Tk x)∧Ke (fun l=>h.length≤l∧l<(h++g2).length) h' (h.length+1) (vg Tk x)∧Step (fun l=>h.length≤l∧l<(h++g2).length) (h++(g2++g)) h') by rw[← List.append_assoc];exact QmA (Rk.app g) Ik x)
   have Q3:=JX (show k<4611686018427387904 by omega)
   refine Qc hb ?_
   simp only[go_sem,simprocAttr,Qa,dk,Qn,ZN.v7,← hx]
   refine QT hb QiQ rfl ?_ (Lu _) rfl fun d h6 hR=>?_
   ·simp only[go_sem,simprocAttr]
   obtain⟨rfl,R6,s6⟩:=hR
   have tU:∃g,h6=h++g:=by
    refine⟨h6.drop h.length,?_⟩
    apply List.ext_getElem?
    intro i
    by_cases hi:i<h.length
    ·rw[QU hi,s6.keep i (by simp;omega) (fun h=>by have:=h.1;omega),QU hi]
    ·rw[List.getElem?_append_right (by omega),List.getElem?_drop]
     congr 1
     omega
   have R7:Ke (fun l=>h.length≤l) h6 (h.length+1) (vg Tk x):=R6.step fun l _ hs=>⟨hs.1,rfl⟩
   refine Qc hb ?_
   simp only[go_sem,simprocAttr]
   by_cases h0:qS Tk x=0
   ·rw[if_neg (by simpa using h0)]at Zj
    have d0:(qS Tk x != 0)=false:=by simpa using h0
    simp only[go_sem,simprocAttr,d0]
    exact⟨Qn,_,Qk.frame (by simp only[go_sem,simprocAttr,Q3]),vg Tk x,_,R7,Ik.one x,Kk.one Ik.rising tT,Zj,tU,rfl⟩
   ·rw[if_pos (by simpa using h0)]at Zj
    have d0:(qS Tk x != 0)=true:=by simpa using h0
    simp only[go_sem,simprocAttr,d0]
    rw[Xn,N9,Zj]
    simp only[if_pos (show qS Tk x≠0 from h0),if_neg h0]
    exact⟨0,trivial,(fun h=>absurd h h0),tU⟩
  ·have ZE:k=l.length:=by omega
   have dk:=decide_eq_false Qn
   rw[ZE,List.drop_length,VO]at vQ
   rw[vQ]at Xn N9
   simp only[ne_eq,not_true_eq_false,if_false]at Xn N9
   have hT:Wq T l=Tk:=by unfold Wq;rw[vQ]
   have hlen:=Ik.len
   have hre:QP prog 130 (h++g2) [.ptr (h.length+1) 0 0 0] (fun d=>d=Vz (Wa Tk)):=by
    obtain⟨m,c,es,h1,h2,h3⟩:=Rk.toR
    exact Qn1 _ _ m c h3 (by omega) h1 h2 (fun x hx=>(Kk x hx).nn)
   have Z6:=QnX Tk
   refine Qc hb ?_
   simp only[go_sem,simprocAttr,Qa,dk]
   refine Qc hb ?_
   simp only[go_sem,simprocAttr,Qa]
   refine QK hb QiS rfl ?_ hre rfl fun d hR=>?_
   ·simp only[go_sem,simprocAttr,Qa]
   subst hR
   refine Qc hb ?_
   simp only[go_sem,simprocAttr,Qa]
   refine QE hb QiR rfl ?_ (QnQ n (Wa Tk) (by omega) Kk.Qok) (Ql.flat rfl) rfl fun d h hR=>?_
   ·simp only[go_sem,simprocAttr,Qa]
   obtain⟨rfl,rfl⟩:=hR
   refine Qc hb ?_
   simp only[go_sem,simprocAttr,Qa]
   rw[Xn,N9,hT]
   by_cases h0:wH n (Wa Tk)=0
   ·have d0:(wH n (Wa Tk) != 0)=false:=by simpa using h0
    simp only[go_sem,simprocAttr,Qa,d0]
    rw[h0]
    exact⟨h.length+1,by simp,fun _=>Rk,g2,rfl⟩
   ·have d0:(wH n (Wa Tk) != 0)=true:=by simpa using h0
    simp only[go_sem,simprocAttr,Qa,d0]
    exact⟨0,by simp [h0],fun h=>absurd h h0,g2,rfl⟩
theorem tV {T:List Qj} (I:JD T) (K:qV T) {l:List ZN} (hc:∀c∈l,ZN.Ok c):JD (Wq T l)∧qV (Wq T l):=tS l T 0 I K hc
def AM (T:List Qj) (id:Int):Bool:=decide (1<QI ((Qr T id).getD default).rt)
def Oa (A B:List Qj):Bool:=(Je A B).any fun id=>AM A id || AM B id
structure Nd where
 c:Qj
 ZM:Nat
 du:Du
 sh:Sh
 cp:Cp
 q:Qu
instance:Inhabited Nd:=⟨⟨default,0,default,default,default,default⟩⟩
def Jr (d:D) (n:Nd):List D:=d::(n.c.cells++(u64 n.ZM::(n.du.cells++(n.sh.cells++n.cp.cells))))
section
variable (d:D) (n:Nd)
@[go_sem] theorem Qu0:(Jr d n).getD 0 D.undef=d:=rfl
@[go_sem] theorem Qu1:(List.drop 1 (Jr d n)).getD 0 D.undef=Qb n.c.iD:=rfl
@[go_sem] theorem Qu2:(List.drop 2 (Jr d n)).getD 0 D.undef=Qb n.c.parent:=rfl
@[go_sem] theorem Qu3:(List.drop 3 (Jr d n)).getD 0 D.undef=QN n.c.leaf:=rfl
@[go_sem] theorem Qu4:(List.drop 15 (Jr d n)).getD 0 D.undef=u64 n.ZM:=rfl
@[go_sem] theorem Qu5:(List.drop 36 (Jr d n)).getD 0 D.undef=u64 n.du.VM:=rfl
@[go_sem] theorem Qu6:(List.drop 37 (Jr d n)).getD 0 D.undef=u64 n.du.dead:=rfl
@[go_sem] theorem Qu7:(List.drop 48 (Jr d n)).getD 0 D.undef=u64 n.sh.time:=rfl
@[go_sem] theorem Qu8:(List.drop 59 (Jr d n)).getD 0 D.undef=u64 n.cp.fit:=rfl
@[go_sem] theorem Qu9:List.take 14 (List.drop 1 (Jr d n))=n.c.cells:=rfl
@[go_sem] theorem Qva:List.take 3 (List.drop 4 (Jr d n))=n.c.rt.cells:=rfl
@[go_sem] theorem Qvb:List.take 3 (List.drop 7 (Jr d n))=n.c.ls.cells:=rfl
@[go_sem] theorem Qvc:List.take 3 (List.drop 10 (Jr d n))=n.c.ul.cells:=rfl
@[go_sem] theorem Qvd:List.take 22 (List.drop 16 (Jr d n))=n.du.cells:=rfl
@[go_sem] theorem Qve:List.take 11 (List.drop 38 (Jr d n))=n.sh.cells:=rfl
@[go_sem] theorem Qvf:List.take 11 (List.drop 49 (Jr d n))=n.cp.cells:=rfl
@[go_sem] theorem Qvg (v:Nat):List.take 15 (Jr d n)++(.raw (.int .u64 ((v:Nat):Int))::List.drop 16 (Jr d n))=Jr d { n with ZM:=v }:=rfl
@[go_sem] theorem Qvh (x:Du):List.take 16 (Jr d n)++(.raw (.bool x.has)::.raw (.int .u64 ((x.dl.f.x:Nat):Int))::.raw (.int .u64 ((x.dl.f.y / 18446744073709551616:Nat):Int))::.raw (.int .u64 ((x.dl.f.y % 18446744073709551616:Nat):Int))::.raw (.int .u64 ((x.dl.f.m:Nat):Int))::.raw (.int .u64 ((x.dl.t.x:Nat):Int))::.raw (.int .u64 ((x.dl.t.y / 18446744073709551616:Nat):Int))::.raw (.int .u64 ((x.dl.t.y % 18446744073709551616:Nat):Int))::.raw (.int .u64 ((x.dl.t.m:Nat):Int))::.raw (.bool x.dl.b)::.raw (.int .u64 ((x.rd.f.x:Nat):Int))::.raw (.int .u64 ((x.rd.f.y / 18446744073709551616:Nat):Int))::.raw (.int .u64 ((x.rd.f.y % 18446744073709551616:Nat):Int))::.raw (.int .u64 ((x.rd.f.m:Nat):Int))::.raw (.int .u64 ((x.rd.t.x:Nat):Int))::.raw (.int .u64 ((x.rd.t.y / 18446744073709551616:Nat):Int))::.raw (.int .u64 ((x.rd.t.y % 18446744073709551616:Nat):Int))::.raw (.int .u64 ((x.rd.t.m:Nat):Int))::.raw (.bool x.rd.b)::.raw (.int .u64 ((x.ZL:Nat):Int))::.raw (.int .u64 ((x.VM:Nat):Int))::.raw (.int .u64 ((x.dead:Nat):Int))::List.drop 38 (Jr d n))=Jr d { n with du:=x }:=rfl
@[go_sem] theorem Qoo (x:Sh):List.take 38 (Jr d n)++(.raw (.bool x.has)::.raw (.int .u64 ((x.run.f.x:Nat):Int))::.raw (.int .u64 ((x.run.f.y / 18446744073709551616:Nat):Int))::.raw (.int .u64 ((x.run.f.y % 18446744073709551616:Nat):Int))::.raw (.int .u64 ((x.run.f.m:Nat):Int))::.raw (.int .u64 ((x.run.t.x:Nat):Int))::.raw (.int .u64 ((x.run.t.y / 18446744073709551616:Nat):Int))::.raw (.int .u64 ((x.run.t.y % 18446744073709551616:Nat):Int))::.raw (.int .u64 ((x.run.t.m:Nat):Int))::.raw (.bool x.run.b)::.raw (.int .u64 ((x.time:Nat):Int))::List.drop 49 (Jr d n))=Jr d { n with sh:=x }:=rfl
@[go_sem] theorem Qvi (x:Cp):List.take 49 (Jr d n)++(.raw (.bool x.has)::.raw (.int .u64 ((x.run.f.x:Nat):Int))::.raw (.int .u64 ((x.run.f.y / 18446744073709551616:Nat):Int))::.raw (.int .u64 ((x.run.f.y % 18446744073709551616:Nat):Int))::.raw (.int .u64 ((x.run.f.m:Nat):Int))::.raw (.int .u64 ((x.run.t.x:Nat):Int))::.raw (.int .u64 ((x.run.t.y / 18446744073709551616:Nat):Int))::.raw (.int .u64 ((x.run.t.y % 18446744073709551616:Nat):Int))::.raw (.int .u64 ((x.run.t.m:Nat):Int))::.raw (.bool x.run.b)::.raw (.int .u64 ((x.fit:Nat):Int))::List.drop 60 (Jr d n))=Jr d { n with cp:=x }:=rfl
end
inductive Tag where
 | no|sc|tree|Ur|qF (id:Int)|WJ (id:Int)|on|lv|mk|VB (id:Int)|Oc
deriving DecidableEq
def Za (own:Nat→Tag) (h:List Ob) (t:Tag):Nat→Tag:=fun l=>if h.length≤l then t else own l
theorem Od {own:Nat→Tag} {h:List Ob} {t:Tag} (l:Nat):more (fun l=>own l=t) h l→Za own h t l=t:=fun hl=>by
 unfold Za
 split
 ·rfl
 ·rcases hl with hl|hl
  ·exact hl
  ·omega
theorem qc {own:Nat→Tag} {h:List Ob} {t:Tag} {l:Nat} (hl:l<h.length):Za own h t l=own l:=by unfold Za;rw[if_neg (by omega)]
structure Qh where
 lk:Cf
 T:List Qj
 To:List Qj
 N:List Nd
 A:List Int
 Lv:List It
 ks:Int→Bool
 KT:Int→List It
 Zd:Nat
 acc:Nat
structure Loc where
 t:Nat
 b:Nat
 o:Nat
 v:Nat
 m:Nat
 cb:Nat
 cm:Nat
 eb:List QM
 em:List QM
 le:Int→Nat
 lq:Int→Nat
 lk:Int→Nat
def Qg (N:List Nd) (id:Int):Option Nd:=N.find? fun n=>n.c.iD==id
@[go_sem] def X2 (c:Cf) (t b o v m Zd acc:Nat):Ob:=⟨.one,0,9,1,fun _=>[Qb c.t,Qb c.K9,.ptr t 0 0 0,.mref b 0,.ptr o 0 0 0,.ptr v 0 0 0,.mref m 0,u64 Zd,u64 acc]⟩
@[go_sem] def Wb (d:D) (n:Nd):Ob:=⟨.one,0,60,1,fun _=>Jr d n⟩
def qD (lq:Int→Nat) (n:Nd):D:=if n.c.leaf=true then .ptr (lq n.c.iD) 0 0 0 else .raw (.pointer none)
structure Nd.Ok (n:Nd):Prop where
 ZM:n.ZM<18446744073709551616
 du:n.du.Ok
 sh:n.sh.Ok
 cp:n.cp.Ok
 c:Qj.Ok n.c
structure Q7 (own:Nat→Tag) (h:List Ob) (p:Nat) (L:Loc) (M:Qh):Prop where
 ob:h[p]? = some (X2 M.lk L.t L.b L.o L.v L.m M.Zd M.acc)
 op:own p=.sc
 tr:Ke (fun l=>own l=.tree) h L.t M.T
 JK:h[L.b]? = some (QG .i64 L.cb L.eb)
 Wr:Jz L.eb (fun id=>(Qg M.N id).map fun _=>.ptr (L.le id) 0 0 0)
 ow:own L.b=.Ur
 Zz:∀id n,Qg M.N id=some n→h[L.le id]? = some (Wb (qD L.lq n) n)∧own (L.le id)=.qF id
 KL:∀id n,Qg M.N id=some n→n.c.leaf=true→∃k:Nat,n.c.Q9=k∧Y6 (fun l=>own l=.WJ id) h (L.lq id) k n.c.bytes n.q
 Ws:Xv (fun l=>own l=.on) h L.o M.To M.A
 VC:KA (fun l=>own l=.lv) h L.v M.Lv
 J5:h[L.m]? = some (QG .i64 L.cm L.em)
 Vm:Jz L.em (fun id=>if M.ks id=true then some (.ptr (L.lk id) 0 0 0) else none)
 om:own L.m=.mk
 kids:∀id,M.ks id=true→KA (fun l=>own l=.VB id) h (L.lk id) (M.KT id)
 Wt:∀id n,Qg M.N id=some n→n.Ok
theorem KA.step {S S':Nat→Prop} {h h':List Ob} {p:Nat} {L:List It} (e:∀l,l<h.length→S l→S' l∧h'[l]? = h[l]?):KA S h p L→KA S' h' p L:=fun⟨a,m,t,c,es,T⟩=>
 have k:∀l o,S l→h[l]? = some o→h'[l]? = some o:=fun l o h1 h2=>(e l (Qd h2) h1).2.trans h2
 ⟨a,m,t,c,es,k _ _ T.sp T.o,⟨k _ _ T.sa T.av.o,T.av.is.frame fun l hl=>(e l (T.av.is.lt l hl) (T.st l hl)).2,T.av.list,T.av.nd,T.av.out,T.av.sorted⟩,k _ _ T.sm T.mo,T.mp,T.vi,T.pa,T.pm,T.am,T.pt,T.mt,(e _ (Qd T.o) T.sp).1,(e _ (Qd T.av.o) T.sa).1,(e _ (Qd T.mo) T.sm).1,fun l hl=>(e l (T.av.is.lt l hl) (T.st l hl)).1⟩
def Live (t:Tag):Prop:=t≠.no∧t≠.Oc
theorem Q7.step {own own':Nat→Tag} {h h':List Ob} {p:Nat} {L:Loc} {M:Qh} (C:Q7 own h p L M) (e:∀l,l<h.length→Live (own l)→own' l=own l∧h'[l]? = h[l]?):Q7 own' h' p L M:=by
 have k:∀l o t,own l=t→Live t→h[l]? = some o→h'[l]? = some o:=fun l o t h1 h2 h3=>(e l (Qd h3) (by rw[h1];exact h2)).2.trans h3
 have o1:∀l o t,own l=t→Live t→h[l]? = some o→own' l=t:=fun l o t h1 h2 h3=>by rw[(e l (Qd h3) (by rw[h1];exact h2)).1,h1]
 have s:∀t,Live t→∀l,l<h.length→own l=t→own' l=t∧h'[l]? = h[l]? := fun t h2 l hl h1=>by
  obtain⟨a,b⟩:=e l hl (by rw[h1];exact h2)
  exact⟨by rw[a,h1],b⟩
 refine⟨k _ _ _ C.op (by simp [Live]) C.ob,o1 _ _ _ C.op (by simp [Live]) C.ob,C.tr.step (s _ (by simp [Live])),k _ _ _ C.ow (by simp [Live]) C.JK,C.Wr,o1 _ _ _ C.ow (by simp [Live]) C.JK,fun id n hn=>?_,fun id n hn hl=>?_,C.Ws.step (s _ (by simp [Live])),C.VC.step (s _ (by simp [Live])),k _ _ _ C.om (by simp [Live]) C.J5,C.Vm,o1 _ _ _ C.om (by simp [Live]) C.J5,fun id hk=>(C.kids id hk).step (s _ (by simp [Live])),C.Wt⟩
 ·obtain⟨h1,h2⟩:=C.Zz id n hn
  exact⟨k _ _ _ h2 (by simp [Live]) h1,o1 _ _ _ h2 (by simp [Live]) h1⟩
 ·obtain⟨kk,h1,h2⟩:=C.KL id n hn hl
  exact⟨kk,h1,h2.step (s _ (by simp [Live]))⟩
structure QZ (own:Nat→Tag) (h:List Ob) (own':Nat→Tag) (h':List Ob):Prop where
 same:∀l,l<h.length→own' l=own l
 keep:∀l,l<h.length→own l=Tag.no→h'[l]? = h[l]?
 len:h.length≤h'.length
theorem QZ.refl (own:Nat→Tag) (h:List Ob):QZ own h own h:=⟨fun _ _=>rfl,fun _ _ _=>rfl,Nat.le_refl _⟩
theorem QZ.trans {own own' tW:Nat→Tag} {h h' XE:List Ob} (a:QZ own h own' h') (b:QZ own' h' tW XE):QZ own h tW XE:=
 ⟨fun l hl=>(b.same l (Nat.lt_of_lt_of_le hl a.len)).trans (a.same l hl),fun l hl hn=>(b.keep l (Nat.lt_of_lt_of_le hl a.len) ((a.same l hl).trans hn)).trans (a.keep l hl hn),Nat.le_trans a.len b.len⟩
theorem QZ.app (own:Nat→Tag) (h g:List Ob) (t:Tag):QZ own h (Za own h t) (h++g):=⟨fun l hl=>qc hl,fun l hl _=>QU hl,by simp⟩
theorem QZ.of {own:Nat→Tag} {h h':List Ob} {t:Tag} (ht:t≠.no) (s:Step (fun l=>own l=t) h h'):QZ own h (Za own h t) h':=
 ⟨fun l hl=>qc hl,fun l hl hn=>s.keep l hl (by rw[hn];exact fun e=>ht e.symm),s.len⟩
theorem QZ.set {own:Nat→Tag} {h:List Ob} {l:Nat} (o:Ob) (hl:own l≠.no):QZ own h own (h.set l o):=⟨fun _ _=>rfl,fun j hj hn=>Qt (fun e=>hl (e▸hn)),by simp⟩
section
variable {own:Nat→Tag} {h h':List Ob} {p:Nat} {L:Loc} {M:Qh} (C:Q7 own h p L M)
include C
theorem Q7.app (g:List Ob):Q7 (Za own h .Oc) (h++g) p L M:=C.step fun l hl _=>⟨qc hl,QU hl⟩
theorem Q7.VP (g:List Ob):Q7 (Za own h .no) (h++g) p L M:=C.step fun l hl _=>⟨qc hl,QU hl⟩
theorem Q7.loc {l:Nat} (hl:own l=.no) (o:Ob):Q7 own (h.set l o) p L M:=C.step fun j _ hj=>⟨rfl,Qt (fun e=>hj.1 (by rw[← e,hl]))⟩
theorem Q7.Oc {l:Nat} (hl:own l=.Oc) (o:Ob):Q7 own (h.set l o) p L M:=C.step fun j _ hj=>⟨rfl,Qt (fun e=>hj.2 (by rw[← e,hl]))⟩
theorem Q7.rest {t:Tag} (s:Step (fun l=>own l=t) h h'):∀u,u≠t→∀l,l<h.length→own l=u→Za own h t l=u∧h'[l]? = h[l]? := fun u hu l hl h1=>
 ⟨by rw[qc hl,h1],s.keep l hl (by rw[h1];exact hu)⟩
theorem Q7.VB (id:Int) (hk:M.ks id=true) {B:List It} (T':KA (more (fun l=>own l=.VB id) h) h' (L.lk id) B) (s:Step (fun l=>own l=.VB id) h h'):Q7 (Za own h (.VB id)) h' p L { M with KT:=fun j=>if j=id then B else M.KT j }:=by
 have r:=C.rest s
 have k:∀l o t,own l=t→t≠.VB id→h[l]? = some o→h'[l]? = some o∧Za own h (.VB id) l=t:=fun l o t h1 h2 h3=>by
  obtain⟨a,b⟩:=r t h2 l (Qd h3) h1
  exact⟨b.trans h3,a⟩
 refine⟨(k _ _ _ C.op (by simp) C.ob).1,(k _ _ _ C.op (by simp) C.ob).2,C.tr.step (r _ (by simp)),(k _ _ _ C.ow (by simp) C.JK).1,C.Wr,(k _ _ _ C.ow (by simp) C.JK).2,fun i n hn=>?_,fun i n hn hl=>?_,C.Ws.step (r _ (by simp)),C.VC.step (r _ (by simp)),(k _ _ _ C.om (by simp) C.J5).1,C.Vm,(k _ _ _ C.om (by simp) C.J5).2,fun i hi=>?_,C.Wt⟩
 ·obtain⟨h1,h2⟩:=C.Zz i n hn
  exact k _ _ _ h2 (by simp) h1
 ·obtain⟨kk,h1,h2⟩:=C.KL i n hn hl
  exact⟨kk,h1,h2.step (r _ (by simp))⟩
 ·by_cases e:i=id
  ·subst e
   dsimp only
   rw[if_pos rfl]
   exact T'.mono fun l hl=>Od l hl
  ·dsimp only
   rw[if_neg e]
   exact(C.kids i hi).step (r _ (by simpa using e))
theorem Q7.lv {B:List It} (T':KA (more (fun l=>own l=.lv) h) h' L.v B) (s:Step (fun l=>own l=.lv) h h'):Q7 (Za own h .lv) h' p L { M with Lv:=B }:=by
 have r:=C.rest s
 have k:∀l o t,own l=t→t≠.lv→h[l]? = some o→h'[l]? = some o∧Za own h .lv l=t:=fun l o t h1 h2 h3=>by
  obtain⟨a,b⟩:=r t h2 l (Qd h3) h1
  exact⟨b.trans h3,a⟩
 refine⟨(k _ _ _ C.op (by simp) C.ob).1,(k _ _ _ C.op (by simp) C.ob).2,C.tr.step (r _ (by simp)),(k _ _ _ C.ow (by simp) C.JK).1,C.Wr,(k _ _ _ C.ow (by simp) C.JK).2,fun i n hn=>?_,fun i n hn hl=>?_,C.Ws.step (r _ (by simp)),T'.mono fun l hl=>Od l hl,(k _ _ _ C.om (by simp) C.J5).1,C.Vm,(k _ _ _ C.om (by simp) C.J5).2,fun i hi=>(C.kids i hi).step (r _ (by simp)),C.Wt⟩
 ·obtain⟨h1,h2⟩:=C.Zz i n hn
  exact k _ _ _ h2 (by simp) h1
 ·obtain⟨kk,h1,h2⟩:=C.KL i n hn hl
  exact⟨kk,h1,h2.step (r _ (by simp))⟩
theorem Q7.act {A':List Int} (T':Xv (more (fun l=>own l=.on) h) h' L.o M.To A') (s:Step (fun l=>own l=.on) h h'):Q7 (Za own h .on) h' p L { M with A:=A' }:=by
 have r:=C.rest s
 have k:∀l o t,own l=t→t≠.on→h[l]? = some o→h'[l]? = some o∧Za own h .on l=t:=fun l o t h1 h2 h3=>by
  obtain⟨a,b⟩:=r t h2 l (Qd h3) h1
  exact⟨b.trans h3,a⟩
 refine⟨(k _ _ _ C.op (by simp) C.ob).1,(k _ _ _ C.op (by simp) C.ob).2,C.tr.step (r _ (by simp)),(k _ _ _ C.ow (by simp) C.JK).1,C.Wr,(k _ _ _ C.ow (by simp) C.JK).2,fun i n hn=>?_,fun i n hn hl=>?_,T'.step fun l _ hl=>⟨Od l hl,rfl⟩,C.VC.step (r _ (by simp)),(k _ _ _ C.om (by simp) C.J5).1,C.Vm,(k _ _ _ C.om (by simp) C.J5).2,fun i hi=>(C.kids i hi).step (r _ (by simp)),C.Wt⟩
 ·obtain⟨h1,h2⟩:=C.Zz i n hn
  exact k _ _ _ h2 (by simp) h1
 ·obtain⟨kk,h1,h2⟩:=C.KL i n hn hl
  exact⟨kk,h1,h2.step (r _ (by simp))⟩
end
theorem QZ.Us {own:Nat→Tag} {h:List Ob} {own':Nat→Tag} {H:List Ob} (D:QZ own h own' H) {l:Nat} (hl:h.length≤l) (o:Ob):QZ own h own' (H.set l o):=⟨D.same,fun j h1 h2=>by rw[Qt (by omega)];exact D.keep j h1 h2,by simpa using D.len⟩
def J1 (N:List Nd) (id:Int) (f:Nd→Nd):List Nd:=N.map fun n=>if n.c.iD=id then f n else n
theorem Wu {N:List Nd} {id:Int} {f:Nd→Nd} (hf:∀n,(f n).c.iD=n.c.iD) (j:Int):Qg (J1 N id f) j=if j=id then (Qg N j).map f else Qg N j:=by
 unfold Qg J1
 rw[List.find?_map]
 have e:((fun n:Nd=>n.c.iD==j) ∘ fun n=>if n.c.iD=id then f n else n)=fun n=>n.c.iD==j:=by
  funext n
  simp only[Function.comp_apply]
  split<;>simp [hf]
 rw[e]
 by_cases hj:j=id
 ·subst hj
  rw[if_pos rfl]
  cases hq:N.find? fun n=>n.c.iD==j with
  | none=>rfl
  | some n=>
   have:=List.find?_some hq
   simp only[beq_iff_eq]at this
   simp [this]
 ·rw[if_neg hj]
  cases hq:N.find? fun n=>n.c.iD==j with
  | none=>rfl
  | some n=>
   have:=List.find?_some hq
   simp only[beq_iff_eq]at this
   simp only[Option.map_some]
   rw[if_neg (by rw[this];exact hj)]
section
variable {own:Nat→Tag} {h:List Ob} {p:Nat} {L:Loc} {M:Qh} (C:Q7 own h p L M)
include C
theorem Q7.qF {id:Int} {n:Nd} (hn:Qg M.N id=some n) (f:Nd→Nd) (hc:∀n,(f n).c=n.c) (hq:∀n,(f n).q=n.q) (KU:(f n).Ok):Q7 own (h.set (L.le id) (Wb (qD L.lq n) (f n))) p L { M with N:=J1 M.N id f }:=by
 obtain⟨e1,e2⟩:=C.Zz id n hn
 have QD:∀l o t,own l=t→t≠.qF id→h[l]? = some o→(h.set (L.le id) (Wb (qD L.lq n) (f n)))[l]? = some o:=fun l o t h1 h2 h3=>by
  rw[Qt (fun e=>h2 (by rw[← h1,← e,e2]))];exact h3
 have r:∀t,t≠.qF id→∀l,l<h.length→own l=t→own l=t∧(h.set (L.le id) (Wb (qD L.lq n) (f n)))[l]? = h[l]? := fun t ht l hl h1=>⟨h1,Qt (fun e=>ht (by rw[← h1,← e,e2]))⟩
 have QQ:∀n,(f n).c.iD=n.c.iD:=fun n=>by rw[hc]
 have yl:=Wu (N:=M.N) (id:=id) QQ
 refine⟨QD _ _ _ C.op (by simp) C.ob,C.op,C.tr.step (r _ (by simp)),QD _ _ _ C.ow (by simp) C.JK,C.Wr.to fun j=>?_,C.ow,fun j m hm=>?_,fun j m hm hl=>?_,C.Ws.step (r _ (by simp)),C.VC.step (r _ (by simp)),QD _ _ _ C.om (by simp) C.J5,C.Vm,C.om,fun j hj=>(C.kids j hj).step (r _ (by simp)),fun j m hm=>?_⟩
 ·dsimp only
  rw[yl]
  split
  ·cases Qg M.N j<;>rfl
  ·rfl
 ·dsimp only at hm
  rw[yl]at hm
  by_cases hj:j=id
  ·subst hj
   rw[if_pos rfl,hn,Option.map_some]at hm
   cases hm
   refine⟨?_,e2⟩
   rw[Qw (Qd e1)]
   unfold qD
   rw[hc]
  ·rw[if_neg hj]at hm
   obtain⟨g1,g2⟩:=C.Zz j m hm
   exact⟨QD _ _ _ g2 (by simpa using hj) g1,g2⟩
 ·dsimp only at hm
  rw[yl]at hm
  by_cases hj:j=id
  ·subst hj
   rw[if_pos rfl,hn,Option.map_some]at hm
   cases hm
   rw[hc]at hl ⊢
   rw[hq]
   obtain⟨kk,g1,g2⟩:=C.KL j n hn hl
   exact⟨kk,g1,g2.step (r _ (by simp))⟩
  ·rw[if_neg hj]at hm
   obtain⟨kk,g1,g2⟩:=C.KL j m hm hl
   exact⟨kk,g1,g2.step (r _ (by simp))⟩
 ·dsimp only at hm
  rw[yl]at hm
  by_cases hj:j=id
  ·subst hj
   rw[if_pos rfl,hn,Option.map_some]at hm
   cases hm
   exact KU
  ·rw[if_neg hj]at hm
   exact C.Wt j m hm
theorem Q7.WJ {h':List Ob} {id:Int} {n:Nd} (hn:Qg M.N id=some n) (hl:n.c.leaf=true) {k:Nat} (hk:n.c.Q9=k) {q':Qu} (Q:Y6 (fun l=>own l=.WJ id) h' (L.lq id) k n.c.bytes q') (s:Step (fun l=>own l=.WJ id) h h'):Q7 (Za own h (.WJ id)) h' p L { M with N:=J1 M.N id fun n=>{ n with q:=q' } }:=by
 have r:=C.rest s
 have kk:∀l o t,own l=t→t≠.WJ id→h[l]? = some o→h'[l]? = some o∧Za own h (.WJ id) l=t:=fun l o t h1 h2 h3=>by
  obtain⟨a,b⟩:=r t h2 l (Qd h3) h1
  exact⟨b.trans h3,a⟩
 have yl:=Wu (N:=M.N) (id:=id) (f:=fun n=>{ n with q:=q' }) (fun _=>rfl)
 refine⟨(kk _ _ _ C.op (by simp) C.ob).1,(kk _ _ _ C.op (by simp) C.ob).2,C.tr.step (r _ (by simp)),(kk _ _ _ C.ow (by simp) C.JK).1,C.Wr.to fun j=>?_,(kk _ _ _ C.ow (by simp) C.JK).2,fun j m hm=>?_,fun j m hm HE=>?_,C.Ws.step (r _ (by simp)),C.VC.step (r _ (by simp)),(kk _ _ _ C.om (by simp) C.J5).1,C.Vm,(kk _ _ _ C.om (by simp) C.J5).2,fun j hj=>(C.kids j hj).step (r _ (by simp)),fun j m hm=>?_⟩
 ·dsimp only
  rw[yl]
  split
  ·cases Qg M.N j<;>rfl
  ·rfl
 ·dsimp only at hm
  rw[yl]at hm
  by_cases hj:j=id
  ·subst hj
   rw[if_pos rfl,hn,Option.map_some]at hm
   cases hm
   obtain⟨g1,g2⟩:=C.Zz j n hn
   exact kk _ _ _ g2 (by simp) g1
  ·rw[if_neg hj]at hm
   obtain⟨g1,g2⟩:=C.Zz j m hm
   exact kk _ _ _ g2 (by simp) g1
 ·dsimp only at hm
  rw[yl]at hm
  by_cases hj:j=id
  ·subst hj
   rw[if_pos rfl,hn,Option.map_some]at hm
   cases hm
   exact⟨k,hk,Q.step fun l _ h1=>⟨Od l (.inl h1),rfl⟩⟩
  ·rw[if_neg hj]at hm
   obtain⟨kk2,g1,g2⟩:=C.KL j m hm HE
   exact⟨kk2,g1,g2.step (r _ (by simpa using hj))⟩
 ·dsimp only at hm
  rw[yl]at hm
  by_cases hj:j=id
  ·subst hj
   rw[if_pos rfl,hn,Option.map_some]at hm
   cases hm
   have:=C.Wt j n hn
   exact⟨this.ZM,this.du,this.sh,this.cp,this.c⟩
  ·rw[if_neg hj]at hm
   exact C.Wt j m hm
theorem Q7.Zd (c a:Nat):Q7 own (h.set p (X2 M.lk L.t L.b L.o L.v L.m c a)) p L { M with Zd:=c,acc:=a }:=by
 have QD:∀l o t,own l=t→t≠.sc→h[l]? = some o→(h.set p (X2 M.lk L.t L.b L.o L.v L.m c a))[l]? = some o:=fun l o t h1 h2 h3=>by
  rw[Qt (fun e=>h2 (by rw[← h1,← e,C.op]))];exact h3
 have r:∀t,t≠.sc→∀l,l<h.length→own l=t→own l=t∧(h.set p (X2 M.lk L.t L.b L.o L.v L.m c a))[l]? = h[l]? := fun t ht l hl h1=>⟨h1,Qt (fun e=>ht (by rw[← h1,← e,C.op]))⟩
 refine⟨Qw (Qd C.ob),C.op,C.tr.step (r _ (by simp)),QD _ _ _ C.ow (by simp) C.JK,C.Wr,C.ow,fun j m hm=>?_,fun j m hm hl=>?_,C.Ws.step (r _ (by simp)),C.VC.step (r _ (by simp)),QD _ _ _ C.om (by simp) C.J5,C.Vm,C.om,fun j hj=>(C.kids j hj).step (r _ (by simp)),C.Wt⟩
 ·obtain⟨g1,g2⟩:=C.Zz j m hm
  exact⟨QD _ _ _ g2 (by simp) g1,g2⟩
 ·obtain⟨kk,g1,g2⟩:=C.KL j m hm hl
  exact⟨kk,g1,g2.step (r _ (by simp))⟩
end
structure Qy (M:Qh):Prop where
 tree:JD M.T
 wK:qV M.T
 to:M.To=M.T
 nodes:M.T=M.N.map (·.c)
 VD:zC M.T M.A
 ks:∀id,M.ks id=true↔id=0∨∃n,Qg M.N id=some n∧n.c.leaf=false
 jH:∀x∈M.Lv,(Qr M.T x.ki).isSome=true
 Yy:∀id,∀x∈M.KT id,∃c,Qr M.T x.ki=some c∧c.parent=id
 Yz:∀id,∀x∈M.KT id,x.ka≤18446744073709551615
 Zd:M.Zd≤4611686018427387904
 acc:M.acc≤1099511627776
theorem Ut (N:List Nd) (id:Int):Qr (N.map (·.c)) id=(Qg N id).map (·.c):=by
 unfold Qr Qg
 rw[List.find?_map]
 rfl
section
variable {M:Qh} (I:Qy M)
include I
theorem Qy.find (id:Int):Qr M.T id=(Qg M.N id).map (·.c):=by rw[I.nodes,Ut]
theorem Qy.Uu (id:Int):∀x∈M.KT id,(Qr M.T x.ki).isSome=true:=fun x hx=>by
 obtain⟨c,hc,_⟩:=I.Yy id x hx
 rw[hc];rfl
theorem Qy.some {id:Int} {n:Nd} (h:Qg M.N id=some n):Qr M.T id=Option.some n.c:=by rw[I.find,h];rfl
omit I in
theorem Qy.id {id:Int} {n:Nd} (h:Qg M.N id=Option.some n):n.c.iD=id:=by
 have:=List.find?_some h
 simpa using this
theorem Qy.AN {id:Int} {n:Nd} (h:Qg M.N id=Option.some n):id≠0:=fun e=>by
 have:=I.some h
 rw[e,BQ I.tree]at this
 cases this
theorem Qy.HN {id:Int} {c:Qj} (h:Qr M.T id=Option.some c):∃n,Qg M.N id=Option.some n∧n.c=c:=by
 rw[I.find]at h
 cases hn:Qg M.N id with
 | none=>rw[hn]at h;cases h
 | some n=>rw[hn]at h;exact⟨n,rfl,Option.some.inj h⟩
end
theorem KA.nd {S:Nat→Prop} {h:List Ob} {p:Nat} {L:List It}:KA S h p L→(L.map It.ki).Nodup:=fun⟨a,m,t,c,es,T⟩=>T.ids
theorem HO {T:List Qj} (I:JD T) {L:List It} (hn:(L.map It.ki).Nodup) (hs:∀x∈L,(Qr T x.ki).isSome=true):L.length≤64:=by
 have h1:(L.map It.ki).length≤(T.map (·.iD)).length:=by
  refine List.Nodup.length_le_of_subset hn fun i hi=>?_
  obtain⟨x,hx,rfl⟩:=List.mem_map.1 hi
  obtain⟨c,hc⟩:=Option.isSome_iff_exists.1 (hs x hx)
  exact List.mem_map.2 ⟨c,zB I hc,Qkg I hc⟩
 have:=I.len
 simp only[List.length_map]at h1
 omega
def ZG (M:Qh) (id:Int):Bool:=Zu M.T M.A id
def KD (M:Qh) (id:Int) (n:Nd):Nat:=if n.c.leaf=true∨ZG M id=false then n.cp.fit else max n.cp.fit (jy (M.KT id))
section
variable {own:Nat→Tag} {h:List Ob} {p:Nat} {L:Loc} {M:Qh} (C:Q7 own h p L M) (I:Qy M)
include C I
omit I in
theorem Q7.look {id:Int} {n:Nd} (hn:Qg M.N id=some n):JJ L.eb id=some (.ptr (L.le id) 0 0 0):=by
 have:=C.Wr.at_ id
 rw[hn]at this
 exact this
theorem Q7.Oe:Av h L.o M.T M.A:=by
 have:=C.Ws.toR
 rwa [I.to]at this
theorem Qoq {id:Int} {n:Nd} (hn:Qg M.N id=some n):QP prog 64 h [.ptr p 0 0 0,.ptr (L.le id) 0 0 0] (fun d=>d=u64 (KD M id n)):=by
 have ho:=ZA C.ob
 have he:=ZA (C.Zz id n hn).1
 have hm:=ZA C.J5
 have QQ:=Qy.id hn
 have zq:=wo (C.Oe I) I.tree I.VD id (I.AN hn)
 unfold KD
 cases hl:n.c.leaf with
 | true=>
  rw[if_pos (.inl rfl)]
  refine Zi Qe 200 func64 rfl ntmps64 results64 rfl fun base w pl F hF QS hb=>?_
  rw[← hF]at ho he
  have Qf:=Qd ho
  have Zm:=Qd he
  simp only[go_sem,simprocAttr,Qa,ho,Qf,he,Zm]
  refine QA Qe hb 200 mixed [(0,true),(1,true),(2,true),(3,true),(4,true),(5,true),(6,true),(7,true),(8,true),(9,true),(10,true),(11,true),(12,true),(13,true),(14,true),(15,false),(16,true),(17,true)] (by kernel_rfl) (by kernel_rfl) ?_
  simp only[go_sem,simprocAttr,Qa,ho,Qf,he,Zm,hl,Go.undef]
  all_goals first|exact⟨_,rfl,rfl⟩|exact⟨_,rfl⟩|rfl|exact⟨[],(List.append_nil _).symm⟩|exact⟨[],(List.append_nil _).symm,rfl⟩
 | false=>
  have WK:M.ks id=true:=(I.ks id).2 (.inr ⟨n,hn,hl⟩)
  have Wv:=C.Vm.at_ id
  rw[if_pos WK]at Wv
  have hT:=(C.kids id WK).toR
  have Yo:Zu M.T M.A id=ZG M id:=rfl
  rw[Yo]at zq
  cases ha:ZG M id with
  | false=>
   rw[ha]at zq
   rw[if_pos (.inr rfl)]
   refine Zi Qe 200 func64 rfl ntmps64 results64 rfl fun base w pl F hF QS hb=>?_
   rw[← hF]at ho he
   have Qf:=Qd ho
   have Zm:=Qd he
   simp only[go_sem,simprocAttr,Qa,ho,Qf,he,Zm]
   refine QA Qe hb 200 mixed [(0,true),(1,true),(2,true),(3,true),(4,true),(5,true),(6,true),(7,true),(8,true),(9,true),(10,true),(11,true),(12,true),(13,true),(14,true),(15,false),(16,true),(17,true)] (by kernel_rfl) (by kernel_rfl) ?_
   simp only[go_sem,simprocAttr,Qa,ho,Qf,he,Zm,hl,Go.undef]
   have qW:Zu M.T M.A id=false:=ha
   refine Z3 hb Ah rfl ?_ (wo ((C.Oe I).more (Jk hF)) I.tree I.VD id (I.AN hn)) rfl fun d hR=>?_
   ·simp only[go_sem,simprocAttr,Qa,ho,Qf,he,Zm,hl,Go.undef,QQ,qW]
   subst hR
   refine QF hb ?_
   simp only[go_sem,simprocAttr,Qa,ho,Qf,he,Zm,hl,Go.undef,QQ,qW]
   all_goals first|exact⟨_,rfl,rfl⟩|exact⟨_,rfl⟩|rfl|exact⟨[],(List.append_nil _).symm⟩|exact⟨[],(List.append_nil _).symm,rfl⟩
  | true=>
   rw[ha]at zq
   rw[if_neg (by simp)]
   have qW:Zu M.T M.A id=true:=ha
   refine Zi Qe 200 func64 rfl ntmps64 results64 rfl fun base w pl F hF QS hb=>?_
   rw[← hF]at ho he hm
   have Qf:=Qd ho
   have Zm:=Qd he
   have QO:=Qd hm
   simp only[go_sem,simprocAttr,Qa,ho,Qf,he,Zm,hm,QO]
   refine QA Qe hb 200 mixed [(0,true),(1,true),(2,true),(3,true),(4,true),(5,true),(6,true),(7,true),(8,true),(9,true),(10,true),(11,true),(12,true),(13,true),(14,true),(15,false),(16,true),(17,true)] (by kernel_rfl) (by kernel_rfl) ?_
   simp only[go_sem,simprocAttr,Qa,ho,Qf,he,Zm,hl,Go.undef]
   refine Z3 hb Ah rfl ?_ (wo ((C.Oe I).more (Jk hF)) I.tree I.VD id (I.AN hn)) rfl fun d hR=>?_
   ·simp only[go_sem,simprocAttr,Qa,ho,Qf,he,Zm,hl,Go.undef,QQ,qW]
   subst hR
   refine QF hb ?_
   simp only[go_sem,simprocAttr,Qa,ho,Qf,he,Zm,hl,Go.undef,QQ,qW]
   refine QA Qe hb 200 mixed [(0,true),(1,true),(2,true),(3,true),(4,true),(5,true),(6,true),(7,true),(8,true),(9,true),(10,true),(11,true),(12,true),(13,true),(14,true),(15,false),(16,false),(17,true)] (by kernel_rfl) (by kernel_rfl) ?_
   simp only[go_sem,simprocAttr,Qa,ho,Qf,he,Zm,hm,QO,Wv,QQ]
   refine Z3 hb Rw rfl ?_ (Tb (hT.more (Jk hF)) (I.Yz id)) rfl fun d hR=>?_
   ·simp only[go_sem,simprocAttr,Qa,ho,Qf,he,Zm,hm,QO]
   subst hR
   refine QF hb ?_
   simp only[go_sem,simprocAttr,Qa,ho,Qf,he,Zm,hm,QO]
   refine Zt hb ox rfl ?_ (sC n.cp.fit (jy (M.KT id))) (Ql.flat rfl) rfl fun d h hR=>?_
   ·simp only[go_sem,simprocAttr,Qa]
   obtain⟨rfl,rfl⟩:=hR
   refine QF hb ?_
   simp only[go_sem,simprocAttr,Qa]
   all_goals first|exact⟨_,rfl,rfl⟩|exact⟨_,rfl⟩|rfl|exact⟨[],(List.append_nil _).symm⟩|exact⟨[],(List.append_nil _).symm,rfl⟩
end
def Qx (M:Qh) (id:Int):Nd:=(Qg M.N id).getD default
def Js (M:Qh) (id:Int):Qh:=
 if ZG M id=true then { M with KT:=fun j=>if j=(Qx M id).c.parent then VL id (Qx M id).sh.time (KD M id (Qx M id)) (M.KT (Qx M id).c.parent) else M.KT j } else M
def JT (M:Qh):List Int→Qh
 | []=>M
 | id::r=>JT (Js M id) r
theorem tX (M:Qh):∀(l r:List Int),JT M (l++r)=JT (JT M l) r
 | [],r=>rfl
 | id::l,r=>tX (Js M id) l r
theorem HP (M:Qh) (id:Int):(Js M id).N=M.N∧(Js M id).T=M.T∧(Js M id).To=M.To∧(Js M id).A=M.A∧(Js M id).Lv=M.Lv∧(Js M id).ks=M.ks∧(Js M id).Zd=M.Zd∧(Js M id).acc=M.acc∧(Js M id).lk=M.lk:=by
 unfold Js;split<;>exact⟨rfl,rfl,rfl,rfl,rfl,rfl,rfl,rfl,rfl⟩
theorem ES:∀(l:List Int) (M:Qh),(JT M l).N=M.N∧(JT M l).T=M.T∧(JT M l).To=M.To∧(JT M l).A=M.A∧(JT M l).Lv=M.Lv∧(JT M l).ks=M.ks∧(JT M l).Zd=M.Zd∧(JT M l).acc=M.acc∧(JT M l).lk=M.lk
 | [],M=>⟨rfl,rfl,rfl,rfl,rfl,rfl,rfl,rfl,rfl⟩
 | id::l,M=>by
  obtain⟨a1,a2,a3,a4,a5,a6,a7,a8,a9⟩:=ES l (Js M id)
  obtain⟨b1,b2,b3,b4,b5,b6,b7,b8,b9⟩:=HP M id
  exact⟨a1.trans b1,a2.trans b2,a3.trans b3,a4.trans b4,a5.trans b5,a6.trans b6,a7.trans b7,a8.trans b8,a9.trans b9⟩
theorem tY {M:Qh} (I:Qy M) {id:Int} {n:Nd} (hn:Qg M.N id=some n) (KU:n.Ok):Qy (Js M id):=by
 obtain⟨b1,b2,b3,b4,b5,b6,b7,b8,b9⟩:=HP M id
 have Zy:Qx M id=n:=by unfold Qx;rw[hn];rfl
 refine⟨by rw[b2];exact I.tree,by rw[b2];exact I.wK,by rw[b2,b3];exact I.to,by rw[b2,b1];exact I.nodes,by rw[b2,b4];exact I.VD,by rw[b6,b1];exact I.ks,by rw[b5,b2];exact I.jH,fun j x hx=>?_,fun j x hx=>?_,by rw[b7];exact I.Zd,by rw[b8];exact I.acc⟩
 ·rw[b2]
  unfold Js at hx
  split at hx
  ·dsimp only at hx
   split at hx
   ·rename_i hj
    subst hj
    rcases As.1 hx with rfl|hx
    ·exact⟨n.c,I.some hn,by rw[Zy]⟩
    ·exact I.Yy _ x (List.mem_filter.1 hx).1
   ·exact I.Yy _ x hx
  ·exact I.Yy _ x hx
 ·unfold Js at hx
  split at hx
  ·dsimp only at hx
   split at hx
   ·rcases As.1 hx with rfl|hx
    ·rw[Zy]
     have:=KU.sh.time
     show n.sh.time≤_
     omega
    ·exact I.Yz _ x (List.mem_filter.1 hx).1
   ·exact I.Yz _ x hx
  ·exact I.Yz _ x hx
structure ET (own:Nat→Tag) (h:List Ob) (p:Nat) (L:Loc) (M:Qh) (U:List Int) (k:Nat) (s:St):Prop where
 ex:∃own' H,Q7 own' H p L (JT M (U.take k))∧Qy (JT M (U.take k))∧QZ own h own' H∧s=⟨[(0,.ptr p 0 0 0),(12,ints U),(13,Qb U.length),(14,Qb k)],H⟩
theorem ET.of {own:Nat→Tag} {h:List Ob} {p:Nat} {L:Loc} {M:Qh} {U:List Int} {k:Nat} {own':Nat→Tag} {H:List Ob} (C:Q7 own' H p L (JT M (U.take k))) (I:Qy (JT M (U.take k))) (D:QZ own h own' H):ET own h p L M U k ⟨[(0,.ptr p 0 0 0),(12,ints U),(13,Qb U.length),(14,Qb k)],H⟩:=⟨⟨own',H,C,I,D,rfl⟩⟩
theorem Uv {M:Qh} (I:Qy M) {id:Int} {n:Nd} (hn:Qg M.N id=some n):M.ks n.c.parent=true:=by
 rw[I.ks]
 by_cases h0:n.c.parent=0
 ·exact .inl h0
 ·obtain⟨d,hd,hl⟩:=I.tree.XN n.c (zB I.tree (I.some hn)) h0
  obtain⟨m,hm,rfl⟩:=I.HN hd
  exact .inr ⟨m,hm,hl⟩
theorem Uw {own:Nat→Tag} {h:List Ob} {p:Nat} {L:Loc} {M:Qh} (C:Q7 own h p L M) (I:Qy M) (leaf:Int):QH prog 43 h [.ptr p 0 0 0,Qb leaf] (fun d h'=>∃own',Q7 own' h' p L (JT M (up M.T leaf))∧Qy (JT M (up M.T leaf))∧QZ own h own' h'):=by
 have ho:=C.ob
 have Of:(up M.T leaf).length≤16:=kQ
 refine QX Qe 200 func43 rfl ntmps43 results43 rfl fun base w pl hb=>?_
 have Qf:=Qd ho
 simp only[go_sem,simprocAttr,Qa,ho,Qf]
 refine QK hb MJ rfl ?_ (SQ C.tr.toR I.tree.toTreeInv leaf) rfl fun d hR=>?_
 ·simp only[go_sem,simprocAttr,Qa,ho,Qf]
 subst hR
 refine Qc hb ?_
 simp only[go_sem,simprocAttr,Qa,ho,Qf]
 obtain⟨U,hU⟩:∃U,U=up M.T leaf:=⟨_,rfl⟩
 rw[show ZI M.T 16 leaf=U from hU.symm]
 rw[← hU]at Of ⊢
 refine Zv (ET own h p L M U) U.length (Qk.frame (by simp only[go_sem,simprocAttr])) (ET.of (k:=0) C I (QZ.refl own h)) ?_
 rintro k _ hk ⟨own',H,Ck,Ik,Dk,rfl⟩
 by_cases Qn:k<U.length
 ·have dk:=decide_eq_true Qn
  obtain⟨id,QQ⟩:∃id,id=U.getD k 0:=⟨_,rfl⟩
  have Qor:id∈up M.T leaf:=by rw[QQ,← hU];exact jo U 0 k Qn
  obtain⟨e1,e2,e3,e4,e5,e6,e7,e8,e9⟩:=ES (U.take k) M
  have VX:=BS Qor
  have Zj:JT M (U.take (k+1))=Js (JT M (U.take k)) id:=by
   rw[getD_take U 0 k Qn,tX,← QQ];rfl
  obtain⟨Mk,ym⟩:∃Mk,Mk=JT M (U.take k):=⟨_,rfl⟩
  rw[← ym]at Ck Ik e1 e2 e3 e4 e5 e6 e7 e8 e9 Zj
  obtain⟨n,hn⟩:∃n,Qg Mk.N id=some n:=by
   rw[← e2,Ik.find]at VX
   cases hq:Qg Mk.N id with
   | none=>rw[hq]at VX;cases VX
   | some n=>exact⟨n,rfl⟩
  have Zy:Qx Mk id=n:=by unfold Qx;rw[hn];rfl
  have VN:=Ck.look hn
  have ho:=Ck.ob
  have Qf:=Qd ho
  have Zf:=Ck.JK
  have qI:=Qd Zf
  obtain⟨he,_⟩:=Ck.Zz id n hn
  have Zm:=Qd he
  have hm:=Ck.J5
  have QO:=Qd hm
  have WK:=Uv Ik hn
  have Wv:=Ck.Vm.at_ n.c.parent
  rw[if_pos WK]at Wv
  have Q3:=JX (show k<4611686018427387904 by omega)
  refine Qc hb ?_
  simp only[go_sem,simprocAttr,Qa,dk,Qn,← QQ,ho,Qf,Zf,qI,VN]
  refine QK hb Ah rfl ?_ (wo (Ck.Oe Ik) Ik.tree Ik.VD id (Ik.AN hn)) rfl fun d hR=>?_
  ·simp only[go_sem,simprocAttr,Qa,ho,Qf]
  subst hR
  refine Qc hb ?_
  simp only[go_sem,simprocAttr,Qa,ho,Qf]
  cases ha:Zu Mk.T Mk.A id with
  | false=>
   have Ux:Js Mk id=Mk:=by unfold Js;rw[if_neg (by unfold ZG;rw[ha];decide)]
   rw[Ux]at Zj
   simp only[go_sem,simprocAttr,Qa]
   exact⟨Qn,_,Qk.frame (by simp only[go_sem,simprocAttr,Q3]),ET.of (by rw[Zj];exact Ck) (by rw[Zj];exact Ik) Dk⟩
  | true=>
   have Xl:Js Mk id={ Mk with KT:=fun j=>if j=n.c.parent then VL id n.sh.time (KD Mk id n) (Mk.KT n.c.parent) else Mk.KT j }:=by
    unfold Js;rw[if_pos (show ZG Mk id=true from ha),Zy]
   have hT:=Ck.kids _ WK
   have EU:=Qy.id hn
   have BP:=HO Ik.tree hT.nd (Ik.Uu _)
   simp only[go_sem,simprocAttr,Qa]
   refine Wj [19] Qe hb 200 mixed [(0,true),(1,true),(2,true),(3,true),(4,true),(5,true),(6,true),(7,true),(8,true),(9,true),(10,true),(11,true),(12,true),(13,true),(14,true),(15,true),(16,true),(17,true),(18,false),(19,false)] [] (by kernel_rfl) (by kernel_rfl) ?_
   simp only[go_sem,simprocAttr,Qa,ho,Qf,he,Zm,hm,QO,Wv]
   refine Z3 hb oa rfl ?_ (Qoq Ck Ik hn) rfl fun d hR=>?_
   ·simp only[go_sem,simprocAttr,Qa,ho,Qf]
   subst hR
   refine QF hb ?_
   simp only[go_sem,simprocAttr,Qa,ho,Qf]
   refine WD hb QiK rfl ?_ (Qll hT id n.sh.time (KD Mk id n) (by omega)) rfl fun d h8 hR=>?_
   ·simp only[go_sem,simprocAttr]
   obtain⟨T8,s8⟩:=hR
   have C8:=Ck.VB _ WK T8 s8
   refine QF hb ?_
   simp only[go_sem,simprocAttr,Qa]
   rw[Xl]at Zj
   exact⟨Qn,_,Qk.frame (by simp only[go_sem,simprocAttr,Q3]),ET.of (by rw[Zj];exact C8) (by rw[Zj,← Xl];exact tY Ik hn (Ck.Wt id n hn)) (Dk.trans (QZ.of (by simp) s8))⟩
 ·have ZE:k=U.length:=by omega
  have dk:=decide_eq_false Qn
  rw[ZE,List.take_length]at Ck Ik
  refine Qc hb ?_
  simp only[go_sem,simprocAttr,Qa,dk]
  exact⟨own',Ck,Ik,Dk⟩
def qd (M:Qh) (now:Nat):Bool:=!(decide (now<M.Zd) || decide (4611686018427387904<now))
def Zn (M:Qh) (now:Nat):Qh:=if qd M now=true then { M with Zd:=now } else M
section
variable {own:Nat→Tag} {h:List Ob} {p:Nat} {L:Loc} {M:Qh} (C:Q7 own h p L M)
include C
theorem tZ (now:Nat):QH prog 34 h [.ptr p 0 0 0,u64 now] (fun d h'=>d=QN (qd M now)∧Q7 own h' p L (Zn M now)∧QZ own h own h'):=by
 have ho:=C.ob
 unfold Zn qd
 by_cases h1:now<M.Zd
 ·have d1:=decide_eq_true h1
  refine QX Qe 200 func34 rfl ntmps34 results34 rfl fun base w pl hb=>?_
  have Qf:=Qd ho
  simp only[go_sem,simprocAttr,Qa,ho,Qf,d1,Go.undef]
  exact⟨by simpa using C,QZ.refl own h⟩
 ·have d1:=decide_eq_false h1
  by_cases h2:4611686018427387904<now
  ·have d2:decide ((4611686018427387904:Int)<(now:Int))=true:=decide_eq_true (by omega)
   have d3:=decide_eq_true h2
   refine QX Qe 200 func34 rfl ntmps34 results34 rfl fun base w pl hb=>?_
   have Qf:=Qd ho
   simp only[go_sem,simprocAttr,Qa,ho,Qf,d1,d2,d3,Go.undef]
   exact⟨by simpa using C,QZ.refl own h⟩
  ·have d2:decide ((4611686018427387904:Int)<(now:Int))=false:=decide_eq_false (by omega)
   have d3:=decide_eq_false h2
   refine QX Qe 200 func34 rfl ntmps34 results34 rfl fun base w pl hb=>?_
   have Qf:=Qd ho
   simp only[go_sem,simprocAttr,Qa,ho,Qf,d1,d2,d3,Go.undef]
   exact⟨C.Zd now M.acc,QZ.set _ (by rw[C.op];decide)⟩
end
def Xe (n:Nd) (ZU:Int) (qX:Bool):Du:=if qX then NR n.du ZU (jB n.q) else kZ n.du (jB n.q)
def Vn (M:Qh) (id:Int) (ZU:Int) (qX:Bool):Qh:=
 if 1<QI (Qx M id).c.rt then { M with
   N:=J1 M.N id fun n=>{ n with du:=Xe (Qx M id) ZU qX }
   Lv:=if (Qx M id).q.l=[] then JH id (VL id (Xe (Qx M id) ZU qX).VM (Xe (Qx M id) ZU qX).dead M.Lv) else VL id (Xe (Qx M id) ZU qX).VM (Xe (Qx M id) ZU qX).dead M.Lv }
 else M
theorem ua {n:Nd} (h:n.Ok) (ZU:Int) (qX:Bool):(Xe n ZU qX).Ok:=by
 unfold Xe
 split
 ·exact Tv (l:={ n.du with ZL:=Vf (n.du.ZL+ZU.toNat) }) h.du.dl h.du.rd (B9 _) _
 ·exact Tv h.du.dl h.du.rd h.du.ZL _
section
variable {own:Nat→Tag} {h:List Ob} {p:Nat} {L:Loc} {M:Qh} (C:Q7 own h p L M) (I:Qy M)
include C I
theorem Qos {id:Int} {n:Nd} (hn:Qg M.N id=some n) (hl:n.c.leaf=true) (ZU:Int) (Kp:0≤ZU) (Zl:ZU<9223372036854775808) (qX:Bool) :
  QH prog 40 h [.ptr p 0 0 0,.ptr (L.le id) 0 0 0,Qb ZU,QN qX] (fun d h'=>∃own',Q7 own' h' p L (Vn M id ZU qX)∧QZ own h own' h'):=by
 have ho:=C.ob
 have he:=(C.Zz id n hn).1
 have QQ:=Qy.id hn
 have Zy:Qx M id=n:=by unfold Qx;rw[hn];rfl
 have KU:=C.Wt id n hn
 have EV:=KU.du
 obtain⟨kq,Ct,hQ⟩:=C.KL id n hn hl
 have yn:qD L.lq n=.ptr (L.lq id) 0 0 0:=by unfold qD;rw[if_pos hl,QQ]
 rw[yn]at he
 have ub:jB n.q<9223372036854775808:=by
  obtain⟨r,Q⟩:=hQ
  unfold jB
  cases hq:n.q.l with
  | nil=>decide
  | cons x l=>
   have:=(Q.lens x (by rw[hq];simp)).2
   show x.len<_
   omega
 unfold Vn
 rw[Zy]
 by_cases hr:1<QI n.c.rt
 ·rw[if_pos hr]
  have dr:=decide_eq_true hr
  refine QX Qe 200 func40 rfl ntmps40 results40 rfl fun base w pl hb=>?_
  have Qf:=Qd ho
  have Zm:=Qd he
  simp only[go_sem,simprocAttr,Qa,ho,Qf,he,Zm]
  refine QE hb vY rfl ?_ (xJ n.c) (Ql.flat rfl) rfl fun d h hR=>?_
  ·simp only[go_sem,simprocAttr,Qa,dr]
  obtain⟨rfl,rfl⟩:=hR
  refine Qc hb ?_
  simp only[go_sem,simprocAttr,Qa,dr]
  have zN:=ua KU ZU qX
  cases qX
  case' true=>
   have hx:Xe n ZU true=NR n.du ZU (jB n.q):=rfl
   rw[hx]at zN ⊢
   simp only[go_sem,simprocAttr,Qa,dr]
   refine QA Qe hb 200 mixed [(0,true),(1,true),(2,true),(3,true),(4,true),(5,true),(6,true),(7,true),(8,true),(9,true),(10,false),(11,false),(12,true),(13,true),(14,false)] (by kernel_rfl) (by kernel_rfl) ?_
   simp only[go_sem,simprocAttr,Qa,ho,Qf,he,Zm]
   refine Z3 hb og rfl ?_ (sx hQ.toR) rfl fun d hR=>?_
   ·simp only[go_sem,simprocAttr,Qa,ho,Qf,he,Zm]
   subst hR
   refine QF hb ?_
   simp only[go_sem,simprocAttr,Qa,ho,Qf,he,Zm]
   refine Zt hb QiG rfl ?_ (Ql5 n.du EV.dl EV.rd EV.ZL ZU (jB n.q) Kp Zl ub) (Ql.flat rfl) rfl fun d h hR=>?_
   ·simp only[go_sem,simprocAttr,Qa,ho,Qf,he,Zm]
   obtain⟨rfl,rfl⟩:=hR
   refine QF hb ?_
   simp only[go_sem,simprocAttr,Qa,ho,Qf,he,Zm]
   generalize NR n.du ZU (jB n.q)=x at zN ⊢
  case' false=>
   have hx:Xe n ZU false=kZ n.du (jB n.q):=rfl
   rw[hx]at zN ⊢
   simp only[go_sem,simprocAttr,Qa,dr]
   refine QA Qe hb 200 mixed [(0,true),(1,true),(2,true),(3,true),(4,true),(5,true),(6,true),(7,true),(8,true),(9,false),(10,false),(11,true),(12,true),(13,false)] (by kernel_rfl) (by kernel_rfl) ?_
   simp only[go_sem,simprocAttr,Qa,ho,Qf,he,Zm]
   refine Z3 hb og rfl ?_ (sx hQ.toR) rfl fun d hR=>?_
   ·simp only[go_sem,simprocAttr,Qa,ho,Qf,he,Zm]
   subst hR
   refine QF hb ?_
   simp only[go_sem,simprocAttr,Qa,ho,Qf,he,Zm]
   refine Zt hb QiH rfl ?_ (Ql6 n.du EV.dl EV.rd EV.ZL (jB n.q) ub) (Ql.flat rfl) rfl fun d h hR=>?_
   ·simp only[go_sem,simprocAttr,Qa,ho,Qf,he,Zm]
   obtain⟨rfl,rfl⟩:=hR
   refine QF hb ?_
   simp only[go_sem,simprocAttr,Qa,ho,Qf,he,Zm]
   generalize kZ n.du (jB n.q)=x at zN ⊢
  all_goals
   have C1:=C.qF hn (fun m=>{ m with du:=x }) (fun _=>rfl) (fun _=>rfl) ⟨KU.ZM,zN,KU.sh,KU.cp,KU.c⟩
   have D1:=QZ.set (own:=own) (h:=h) (Wb (qD L.lq n) { n with du:=x }) (l:=L.le id) (by rw[(C.Zz id n hn).2];simp)
   rw[yn]at C1 D1
   generalize hH:h.set (L.le id) (Wb (.ptr (L.lq id) 0 0 0) { n with du:=x })=H at C1 D1
   have An:h.set (L.le id) ⟨.one,0,60,1,fun _=>Jr (.ptr (L.lq id) 0 0 0) { n with du:=x }⟩=H:=hH
   have Jc:Qg (J1 M.N id fun m=>{ m with du:=x }) id=some { n with du:=x }:=by
    rw[Wu (f:=fun m=>{ m with du:=x }) (fun _=>rfl),if_pos rfl,hn];rfl
   have ho:=C1.ob
   have Qf:=Qd ho
   have he:=(C1.Zz id _ Jc).1
   have uc:qD L.lq { n with du:=x }=.ptr (L.lq id) 0 0 0:=yn
   rw[uc]at he
   have Zm:=Qd he
   have BP:=HO I.tree C1.VC.nd I.jH
   simp only[An]
   refine Wj [19] Qe hb 200 mixed [(0,true),(1,true),(2,true),(3,true),(4,true),(5,true),(6,true),(7,true),(8,true),(9,true),(10,true),(11,true),(12,true),(13,true),(14,true),(15,true),(16,true),(17,true),(18,true),(19,false)] [] (by kernel_rfl) (by kernel_rfl) ?_
   simp only[go_sem,simprocAttr,Qa,ho,Qf,he,Zm]
   refine WD hb oh rfl ?_ (rK C1.VC id x.VM x.dead (by omega)) rfl fun d h8 hR=>?_
   ·simp only[go_sem,simprocAttr,QQ]
   obtain⟨T8,s8⟩:=hR
   have C8:=C1.lv T8 s8
   have D8:=D1.trans (QZ.of (own:=own) (t:=.lv) (by simp) s8)
   have ho:=C8.ob
   have Qf:=Qd ho
   have he:=(C8.Zz id _ Jc).1
   rw[uc]at he
   have Zm:=Qd he
   obtain⟨kq8,Qvk,Uy⟩:=C8.KL id _ Jc hl
   refine QF hb ?_
   simp only[go_sem,simprocAttr,Qa,ho,Qf,he,Zm]
   refine QK hb Ag rfl ?_ (Cb Uy.toR) rfl fun d hR=>?_
   ·simp only[go_sem,simprocAttr,Qa,ho,Qf,he,Zm]
   subst hR
   refine Qc hb ?_
   simp only[go_sem,simprocAttr,Qa,ho,Qf,he,Zm]
   cases hq:n.q.l with
   | cons y l=>
    have dq:(((l.length+1:Nat):Int)==0)=false:=VG (by omega)
    rw[if_neg (by simp)]
    simp only[go_sem,simprocAttr,Qa,hq,dq]
    exact⟨_,C8,D8⟩
   | nil=>
    rw[if_pos rfl]
    have BP:=HO I.tree C8.VC.nd (fun y hy=>by
     rcases As.1 hy with rfl|hy
     ·rw[I.some hn];rfl
     ·exact I.jH y (List.mem_filter.1 hy).1)
    simp only[go_sem,simprocAttr,Qa,hq]
    refine Wj [9] Qe hb 200 mixed [(0,true),(1,true),(2,true),(3,true),(4,true),(5,true),(6,true),(7,true),(8,true),(9,false)] [] (by kernel_rfl) (by kernel_rfl) ?_
    simp only[go_sem,simprocAttr,Qa,ho,Qf,he,Zm]
    refine WD hb oo rfl ?_ (rI C8.VC id (by omega)) rfl fun d h9 hR=>?_
    ·simp only[go_sem,simprocAttr,QQ]
    obtain⟨rfl,T9,s9⟩:=hR
    refine QF hb ?_
    simp only[go_sem,simprocAttr,Qa]
    exact⟨_,C8.lv T9 s9,D8.trans (QZ.of (by simp) s9)⟩
 ·rw[if_neg hr]
  have dr:=decide_eq_false hr
  refine QX Qe 200 func40 rfl ntmps40 results40 rfl fun base w pl hb=>?_
  have Qf:=Qd ho
  have Zm:=Qd he
  simp only[go_sem,simprocAttr,Qa,ho,Qf,he,Zm]
  refine QE hb vY rfl ?_ (xJ n.c) (Ql.flat rfl) rfl fun d h hR=>?_
  ·simp only[go_sem,simprocAttr,Qa,dr]
  obtain⟨rfl,rfl⟩:=hR
  refine Qc hb ?_
  simp only[go_sem,simprocAttr,Qa,dr]
  exact⟨own,C,QZ.refl own h⟩
end
def Cu (L:List It):Nat:=(L.head?.getD default).ka
def jJ (M:Qh) (now:Nat) (n:Nd):Nd:={ n with sh:=Ce n.sh (Jq n.c.ls) (Cu (M.KT n.c.parent)) n.ZM,cp:=x8 n.cp (Jq n.c.ul) now n.ZM }
def K5 (now:Nat) (M:Qh) (j:Int):Qh:={ M with N:=J1 M.N j (jJ M now) }
def Jl (M:Qh) (now:Nat) (id:Int) (head:Int):Qh:=
 if 1<QI (Qx M id).c.rt then { M with
   N:=J1 M.N id fun n=>{ n with du:=Xx (Qx M id).du (Jq (Qx M id).c.rt) now head }
   Lv:=VL id (Xx (Qx M id).du (Jq (Qx M id).c.rt) now head).VM (Xx (Qx M id).du (Jq (Qx M id).c.rt) now head).dead M.Lv }
 else M
def qf (M:Qh) (now:Nat) (id:Int) (head:Int):Qh:=
 if 1<QI (Qx M id).c.ls then JT ((VI M.T M.A id).foldl (K5 now) { Jl M now id head with A:=id::M.A }) (up M.T id)
 else Jl M now id head
theorem Qot (N:List Nd) (id:Int) (f:Nd→Nd) (hf:∀n,(f n).c=n.c):(J1 N id f).map (·.c)=N.map (·.c):=by
 unfold J1
 rw[List.map_map]
 congr 1
 funext n
 simp only[Function.comp_apply]
 split
 ·exact hf n
 ·rfl
theorem Qy.J1 {M:Qh} (I:Qy M) (id:Int) (f:Nd→Nd) (hf:∀n,(f n).c=n.c):Qy { M with N:=X.J1 M.N id f }:=by
 refine⟨I.tree,I.wK,I.to,by dsimp only;rw[Qot _ _ _ hf];exact I.nodes,I.VD,fun j=>?_,I.jH,I.Yy,I.Yz,I.Zd,I.acc⟩
 dsimp only
 rw[I.ks,Wu (fun n=>by rw[hf])]
 by_cases hj:j=id
 ·subst hj
  rw[if_pos rfl]
  constructor
  ·rintro (h|⟨n,h1,h2⟩)
   ·exact .inl h
   ·exact .inr ⟨f n,by rw[h1];rfl,by rw[hf];exact h2⟩
  ·rintro (h|⟨n,h1,h2⟩)
   ·exact .inl h
   ·cases hq:Qg M.N j with
    | none=>rw[hq]at h1;cases h1
    | some m=>
     rw[hq]at h1;cases h1
     exact .inr ⟨m,rfl,by rw[← hf];exact h2⟩
 ·rw[if_neg hj]
theorem Qy.lv {M:Qh} (I:Qy M) {B:List It} (h:∀x∈B,(Qr M.T x.ki).isSome=true):Qy { M with Lv:=B }:=
 ⟨I.tree,I.wK,I.to,I.nodes,I.VD,I.ks,h,I.Yy,I.Yz,I.Zd,I.acc⟩
theorem Qy.act {M:Qh} (I:Qy M) {B:List Int} (h:zC M.T B):Qy { M with A:=B }:=
 ⟨I.tree,I.wK,I.to,I.nodes,h,I.ks,I.jH,I.Yy,I.Yz,I.Zd,I.acc⟩
theorem HQ {id:Int} {a b:Nat} {L:List It} {x:It} (h:x∈VL id a b L):x.ki=id∨x∈L:=by
 rcases As.1 h with rfl|h
 ·exact .inl rfl
 ·exact .inr (List.mem_filter.1 h).1
theorem ud {M:Qh} (I:Qy M) {now:Nat} (Vo:now<18446744073709551616) {n:Nd} (h:n.Ok):(jJ M now n).Ok:=by
 have DE:Cu (M.KT n.c.parent)<18446744073709551616:=by
  unfold Cu
  cases hq:M.KT n.c.parent with
  | nil=>decide
  | cons x l=>
   have:=I.Yz n.c.parent x (by rw[hq];simp)
   show x.ka<_
   omega
 exact⟨h.ZM,h.du,Qmi h.sh h.c.2.2.2.2.1.lt DE h.ZM,Qmo h.cp h.c.2.2.2.2.2.1.lt Vo h.ZM,h.c⟩
theorem Qy.K5 {M:Qh} (I:Qy M) (now:Nat) (j:Int):Qy (K5 now M j):=I.J1 j (jJ M now) fun _=>rfl
theorem EW (now:Nat):∀(l:List Int) (M:Qh),(l.foldl (K5 now) M).T=M.T∧(l.foldl (K5 now) M).A=M.A∧(l.foldl (K5 now) M).KT=M.KT∧(l.foldl (K5 now) M).lk=M.lk∧(l.foldl (K5 now) M).Zd=M.Zd∧(l.foldl (K5 now) M).acc=M.acc
 | [],M=>⟨rfl,rfl,rfl,rfl,rfl,rfl⟩
 | j::l,M=>EW now l (X.K5 now M j)
theorem Qy.Og {now:Nat}:∀(l:List Int) {M:Qh},Qy M→Qy (l.foldl (X.K5 now) M)
 | [],M,I=>I
 | j::l,M,I=>Qy.Og l (I.K5 now j)
theorem Oh {M:Qh} {now:Nat} {id:Int} {head:Int}:(Jl M now id head).T=M.T∧(Jl M now id head).A=M.A∧(Jl M now id head).KT=M.KT∧(Jl M now id head).lk=M.lk:=by
 unfold Jl;split<;>exact⟨rfl,rfl,rfl,rfl⟩
theorem Qy.Jl {M:Qh} (I:Qy M) {id:Int} {n:Nd} (hn:Qg M.N id=Option.some n) (now:Nat) (head:Int):Qy (Jl M now id head):=by
 unfold X.Jl
 split
 ·refine(I.J1 id (fun n=>{ n with du:=Xx (Qx M id).du (Jq (Qx M id).c.rt) now head }) fun _=>rfl).lv fun x hx=>?_
  rcases HQ hx with h|h
  ·rw[h]
   show (Qr M.T id).isSome=true
   rw[I.some hn];rfl
  ·exact I.jH x h
 ·exact I
theorem Qou {M:Qh} {now:Nat} {id:Int} {head:Int} (j:Int) {n:Nd} (hn:Qg M.N j=some n):∃m,Qg (Jl M now id head).N j=some m∧m.c=n.c:=by
 unfold Jl
 split
 ·dsimp only
  rw[Wu (f:=fun n=>{ n with du:=Xx (Qx M id).du (Jq (Qx M id).c.rt) now head }) (fun _=>rfl)]
  split
  ·rw[hn];exact⟨_,rfl,rfl⟩
  ·exact⟨n,hn,rfl⟩
 ·exact⟨n,hn,rfl⟩
theorem Uz {c:Cv} (h:Cv.Ok c):(((Jq c).a:Nat):Int)=c.m1∧(((Jq c).d:Nat):Int)=c.d∧(((Jq c).b:Nat):Int)=c.m2:=by
 have h1:=wf_u64 h.1
 have h2:=wf_u64 h.2.1
 have h3:=wf_u64 h.2.2.1
 refine⟨?_,?_,?_⟩
 ·show ((c.m1.toNat:Nat):Int)=_;omega
 ·show ((c.d.toNat:Nat):Int)=_;omega
 ·show ((c.m2.toNat:Nat):Int)=_;omega
structure HS (own:Nat→Tag) (h:List Ob) (p:Nat) (L:Loc) (M:Qh) (now:Nat) (id:Int) (lo g:Nat) (row:Nat→List D) (U:List Int) (k:Nat) (s:St):Prop where
 ex:∃own' H,Q7 own' H p L ((U.take k).foldl (K5 now) M)∧QZ own h own' H∧own' lo=.on∧H[lo]? = some ⟨.arr,g,1,U.length,row⟩ ∧
  s=⟨[(0,.ptr p 0 0 0),(1,u64 now),(8,Qb id),(72,.ref lo g 0 U.length),(73,Qb U.length),(74,Qb k)],H⟩
theorem HS.of {own:Nat→Tag} {h:List Ob} {p:Nat} {L:Loc} {M:Qh} {now:Nat} {id:Int} {lo g:Nat} {row:Nat→List D} {U:List Int} {k:Nat} {own':Nat→Tag} {H:List Ob} (C:Q7 own' H p L ((U.take k).foldl (K5 now) M)) (D:QZ own h own' H) (h1:own' lo=.on) (h2:H[lo]? = some ⟨.arr,g,1,U.length,row⟩) :
  HS own h p L M now id lo g row U k ⟨[(0,.ptr p 0 0 0),(1,u64 now),(8,Qb id),(72,.ref lo g 0 U.length),(73,Qb U.length),(74,Qb k)],H⟩:=⟨⟨own',H,C,D,h1,h2,rfl⟩⟩
theorem Qov {own:Nat→Tag} {h:List Ob} {p:Nat} {L:Loc} {M:Qh} (C:Q7 own h p L M) (I:Qy M) {id:Int} {n:Nd} (hn:Qg M.N id=some n) (hl:n.c.leaf=true) (now:Nat) (Vo:now<18446744073709551616) (head:Int) (hh:head<9223372036854775808) (Z9:ZG M id=false) :
  QH prog 49 h [.ptr p 0 0 0,u64 now,.ptr (L.le id) 0 0 0,Qb head] (fun d h'=>∃own',Q7 own' h' p L (qf M now id head)∧Qy (qf M now id head)∧QZ own h own' h'):=by
 have ho:=C.ob
 have he:=(C.Zz id n hn).1
 have QQ:=Qy.id hn
 have Zy:Qx M id=n:=by unfold Qx;rw[hn];rfl
 have KU:=C.Wt id n hn
 obtain⟨r1,r2,r3⟩:=Uz KU.c.2.2.2.1
 have IR:=Qy.Jl I hn now head
 have Qvl:L.le id≠p:=fun e=>by have h1:=(C.Zz id n hn).2;rw[e,C.op]at h1;cases h1
 obtain⟨MR,EX⟩:∃MR,MR=Jl M now id head:=⟨_,rfl⟩
 have UA:qf M now id head=if 1<QI n.c.ls then JT ((VI M.T M.A id).foldl (K5 now) { MR with A:=id::M.A }) (up M.T id) else MR:=by unfold qf;rw[Zy,EX]
 by_cases hr:1<QI n.c.rt
 case' pos=>
  have dr:=decide_eq_true hr
  have zN:=sy KU.du KU.c.2.2.2.1.lt Vo head
  refine QX Qe 200 func49 rfl ntmps49 results49 rfl fun base w pl hb=>?_
  have Qf:=Qd ho
  have Zm:=Qd he
  simp only[go_sem,simprocAttr,Qa,ho,Qf,he,Zm]
  refine QE hb vY rfl ?_ (xJ n.c) (Ql.flat rfl) rfl fun d h hR=>?_
  ·simp only[go_sem,simprocAttr,Qa,dr]
  obtain⟨rfl,rfl⟩:=hR
  refine Qc hb ?_
  simp only[go_sem,simprocAttr,Qa,dr]
  refine QA Qe hb 200 mixed [(0,true),(1,true),(2,true),(3,true),(4,true),(5,true),(6,true),(7,true),(8,true),(9,true),(10,true),(11,true),(12,false),(13,true),(14,true),(15,false)] (by kernel_rfl) (by kernel_rfl) ?_
  simp only[go_sem,simprocAttr,Qa,ho,Qf,he,Zm]
  refine Zt hb QiM rfl ?_ (Qmf n.du KU.du (Jq n.c.rt) KU.c.2.2.2.1.lt now Vo head hh) (Ql.flat rfl) rfl fun d h hR=>?_
  ·simp only[go_sem,simprocAttr,Qa,ho,Qf,he,Zm,r1,r2,r3]
  obtain⟨rfl,rfl⟩:=hR
  refine QF hb ?_
  simp only[go_sem,simprocAttr,Qa,ho,Qf,he,Zm,r1,r2,r3]
  have Oi:MR={ M with N:=J1 M.N id fun m=>{ m with du:=Xx n.du (Jq n.c.rt) now head },Lv:=VL id (Xx n.du (Jq n.c.rt) now head).VM (Xx n.du (Jq n.c.rt) now head).dead M.Lv }:=by
   rw[EX];unfold Jl;rw[Zy,if_pos hr]
  generalize Xx n.du (Jq n.c.rt) now head=x at zN Oi ⊢
  have C1:=C.qF hn (fun m=>{ m with du:=x }) (fun _=>rfl) (fun _=>rfl) ⟨KU.ZM,zN,KU.sh,KU.cp,KU.c⟩
  have D1:=QZ.set (own:=own) (h:=h) (Wb (qD L.lq n) { n with du:=x }) (l:=L.le id) (by rw[(C.Zz id n hn).2];simp)
  generalize hH:h.set (L.le id) (Wb (qD L.lq n) { n with du:=x })=H at C1 D1
  have An:h.set (L.le id) ⟨.one,0,60,1,fun _=>Jr (qD L.lq n) { n with du:=x }⟩=H:=hH
  have Jc:Qg (J1 M.N id fun m=>{ m with du:=x }) id=some { n with du:=x }:=by
   rw[Wu (f:=fun m=>{ m with du:=x }) (fun _=>rfl),if_pos rfl,hn];rfl
  have Zp:=C1.ob
  have KM:=Qd Zp
  have vr:=(C1.Zz id _ Jc).1
  have EY:=Qd vr
  have BP:=HO I.tree C1.VC.nd I.jH
  simp only[An]
  refine Wj [15] Qe hb 200 mixed [(0,true),(1,true),(2,true),(3,true),(4,true),(5,true),(6,true),(7,true),(8,true),(9,true),(10,true),(11,true),(12,true),(13,true),(14,true),(15,false)] [] (by kernel_rfl) (by kernel_rfl) ?_
  simp only[go_sem,simprocAttr,Qa,Zp,KM,vr,EY]
  refine WD hb oh rfl ?_ (rK C1.VC id x.VM x.dead (by omega)) rfl fun d h8 hR=>?_
  ·simp only[go_sem,simprocAttr,QQ]
  obtain⟨T8,s8⟩:=hR
  have CR:=C1.lv T8 s8
  have DR:=D1.trans (QZ.of (own:=own) (t:=.lv) (by simp) s8)
  rw[← Oi]at CR
  refine QF hb ?_
  simp only[go_sem,simprocAttr,Qa]
  generalize Za own H .lv=Qvm at CR DR
  generalize h8=HR at CR DR ⊢
 case' neg=>
  have dr:=decide_eq_false hr
  refine QX Qe 200 func49 rfl ntmps49 results49 rfl fun base w pl hb=>?_
  have Qf:=Qd ho
  have Zm:=Qd he
  simp only[go_sem,simprocAttr,Qa,ho,Qf,he,Zm]
  refine QE hb vY rfl ?_ (xJ n.c) (Ql.flat rfl) rfl fun d h hR=>?_
  ·simp only[go_sem,simprocAttr,Qa,dr]
  obtain⟨rfl,rfl⟩:=hR
  refine Qc hb ?_
  simp only[go_sem,simprocAttr,Qa,dr]
  have Oi:MR=M:=by rw[EX];unfold Jl;rw[Zy,if_neg hr]
  have CR:=C
  rw[← Oi]at CR
  have DR:=QZ.refl own h
 all_goals
  rw[← EX]at IR
  obtain⟨kT,kA,kK,kl⟩:=Oh (M:=M) (now:=now) (id:=id) (head:=head)
  rw[← EX]at kT kA kK kl
  obtain⟨m,hm,zJ⟩:∃m,Qg MR.N id=some m∧m.c=n.c:=by rw[EX];exact Qou id hn
  have ue:=(CR.Zz id m hm).1
  have Qow:=Qd ue
  have KO:=CR.ob
  have qg:=Qd KO
  simp only[go_sem,simprocAttr,Qa,ue,Qow,zJ]
  refine QE hb YR rfl ?_ (YT n.c) (Ql.flat rfl) rfl fun d h hR=>?_
  ·simp only[go_sem,simprocAttr,Qa]
  obtain⟨rfl,rfl⟩:=hR
  refine Qc hb ?_
  simp only[go_sem,simprocAttr,Qa]
  by_cases hs:1<QI n.c.ls
  case neg=>
   have ds:=decide_eq_false hs
   simp only[go_sem,simprocAttr,Qa,ds]
   rw[UA,if_neg hs]
   exact⟨_,CR,IR,DR⟩
  have ds:=decide_eq_true hs
  rw[if_pos hs,← kA,← kT]at UA
  rw[UA]
  have KB:Qr MR.T id=some n.c:=by rw[kT];exact I.some hn
  have hO:=CR.Ws
  rw[IR.to]at hO
  have uf:Zu MR.T MR.A id=false:=by rw[kT,kA];exact Z9
  simp only[go_sem,simprocAttr,Qa,ds,KO,qg]
  refine QT hb RD rfl ?_ (rq hO IR.tree IR.VD id n.c KB hl hs uf) rfl fun d h9 hR=>?_
  ·simp only[go_sem,simprocAttr,QQ]
  obtain⟨d1,rfl,kE,O9,s9⟩:=hR
  rw[← IR.to]at O9
  have C9:=CR.act O9 s9
  have D9:=DR.trans (QZ.of (t:=.on) (by simp) s9)
  have I9:Qy { MR with A:=id::MR.A }:=IR.act (fun a ha=>by
   rcases List.mem_cons.1 ha with rfl|ha
   ·exact⟨n.c,KB,hl,hs⟩
   ·exact IR.VD a ha)
  obtain⟨U,hU⟩:∃U,U=VI MR.T MR.A id:=⟨_,rfl⟩
  rw[← hU]at kE ⊢
  have Of:U.length≤16:=by
   rw[hU]
   exact Nat.le_trans (List.takeWhile_sublist _).length_le kQ
  have UB:∀j∈U,j∈up MR.T id:=fun j hj=>by rw[hU]at hj;exact(List.takeWhile_sublist _).subset hj
  obtain⟨M9,HT⟩:∃M9,M9={ MR with A:=id::MR.A }:=⟨_,rfl⟩
  have Oj:M9.T=MR.T:=by rw[HT]
  rw[← HT]at C9 I9 ⊢
  rcases kE with ⟨rfl,HU⟩|⟨lo,g,off,row,rfl,⟨Zr,rfl⟩,Cw,ZR⟩
  ·exfalso
   rw[hU,VI,JS IR.tree KB,List.takeWhile_cons,uf]at HU
   cases HU
  have Qox:=Qd Cw
  rw[Nat.zero_add]at Cw
  refine Qc hb ?_
  simp only[go_sem,simprocAttr,Qa]
  refine Zv (HS own h p L M9 now id lo g row U) U.length (Qk.frame (by simp only[go_sem,simprocAttr,QQ])) (HS.of (k:=0) C9 D9 (by unfold Za;rw[if_pos Zr]) Cw) ?_
  rintro k _ hk ⟨own',H,Ck,Dk,y9,Z6,rfl⟩
  have HV:=Qd Z6
  by_cases Qn:k<U.length
  case neg=>
   have ZE:k=U.length:=by omega
   have dk:=decide_eq_false Qn
   rw[ZE,List.take_length]at Ck
   have Ik:=Qy.Og (now:=now) U I9
   have Cy:=(EW now U M9).1
   have ZJ:=Uw Ck Ik id
   rw[Cy,Oj]at ZJ
   refine Qc hb ?_
   simp only[go_sem,simprocAttr,Qa,dk]
   refine Qc hb ?_
   simp only[go_sem,simprocAttr,Qa]
   refine QT hb Ry rfl ?_ ZJ rfl fun d YJ hR=>?_
   ·simp only[go_sem,simprocAttr]
   obtain⟨Ol,zO,Om,AO⟩:=hR
   refine Qc hb ?_
   simp only[go_sem,simprocAttr,Qa]
   exact⟨Ol,zO,Om,Dk.trans AO⟩
  have dk:=decide_eq_true Qn
  obtain⟨j,hj⟩:∃j,j=U.getD k 0:=⟨_,rfl⟩
  have yo:j∈up MR.T id:=UB j (by rw[hj];exact jo U 0 k Qn)
  have HW:row k=[Qb j]:=by have:=ZR k Qn;rw[Nat.zero_add]at this;rw[this,hj]
  have Zj:(U.take (k+1)).foldl (K5 now) M9=K5 now ((U.take k).foldl (K5 now) M9) j:=by
   rw[getD_take U 0 k Qn,List.foldl_append,← hj];rfl
  have Ik:=Qy.Og (now:=now) (U.take k) I9
  have Cy:=(EW now (U.take k) M9).1
  obtain⟨Mk,ym⟩:∃Mk,Mk=(U.take k).foldl (K5 now) M9:=⟨_,rfl⟩
  rw[← ym]at Ck Ik Cy Zj
  obtain⟨y,hy⟩:∃y,Qg Mk.N j=some y:=by
   have VX:=BS yo
   rw[← Oj,← Cy,Ik.find]at VX
   cases hq:Qg Mk.N j with
   | none=>rw[hq]at VX;cases VX
   | some y=>exact⟨y,rfl⟩
  have zP:=Ck.Wt j y hy
  obtain⟨l1,l2,l3⟩:=Uz zP.c.2.2.2.2.1
  obtain⟨u1,u2,u3⟩:=Uz zP.c.2.2.2.2.2.1
  have VN:=Ck.look hy
  have VQ:=Ck.ob
  have YA:=Qd VQ
  have YB:=Ck.JK
  have AP:=Qd YB
  have qY:=(Ck.Zz j y hy).1
  have qh:=Qd qY
  have xN:=Ck.J5
  have Ng:=Qd xN
  have WK:=Uv Ik hy
  have Wv:=Ck.Vm.at_ y.c.parent
  rw[if_pos WK]at Wv
  have zQ:=(Ck.kids _ WK).toR
  have Q3:=JX (show k<4611686018427387904 by omega)
  have DE:Cu (Mk.KT y.c.parent)<18446744073709551616:=by
   unfold Cu
   cases hq:Mk.KT y.c.parent with
   | nil=>decide
   | cons x l=>
    have:=Ik.Yz y.c.parent x (by rw[hq];simp)
    show x.ka<_
    omega
  have QD:L.le j≠lo:=fun e=>by have h1:=(Ck.Zz j y hy).2;rw[e,y9]at h1;cases h1
  refine Qc hb ?_
  simp only[go_sem,simprocAttr,Qa,dk,Qn,HW,VQ,YA,YB,AP,Z6,HV,VN]
  refine QA Qe hb 200 mixed [(0,true),(1,true),(2,true),(3,true),(4,true),(5,true),(6,true),(7,true),(8,true),(9,true),(10,false),(11,true),(12,true),(13,true),(14,true),(15,true)] (by kernel_rfl) (by kernel_rfl) ?_
  simp only[go_sem,simprocAttr,Qa,VQ,YA,qY,qh,xN,Ng,Wv]
  refine Z3 hb QiN rfl ?_ (Qlp zQ) rfl fun d hR=>?_
  ·simp only[go_sem,simprocAttr,Qa,VQ,YA]
  subst hR
  refine QF hb ?_
  simp only[go_sem,simprocAttr,Qa,VQ,YA]
  have HX:(((Mk.KT y.c.parent).head?.getD default).ka:Int)=((Cu (Mk.KT y.c.parent):Nat):Int):=rfl
  simp only[HX]
  refine QA Qe hb 200 mixed [(0,true),(1,true),(2,true),(3,true),(4,true),(5,true),(6,true),(7,true),(8,true),(9,true),(10,true),(11,true),(12,true),(13,true),(14,true),(15,false),(16,true),(17,true),(18,false)] (by kernel_rfl) (by kernel_rfl) ?_
  simp only[go_sem,simprocAttr,Qa,qY,qh]
  refine Zt hb QiO rfl ?_ (Qmk y.sh zP.sh (Jq y.c.ls) zP.c.2.2.2.2.1.lt (Cu (Mk.KT y.c.parent)) y.ZM DE zP.ZM) (Ql.flat rfl) rfl fun d h hR=>?_
  ·simp only[go_sem,simprocAttr,Qa,qY,qh,l1,l2,l3]
  obtain⟨rfl,rfl⟩:=hR
  refine QF hb ?_
  simp only[go_sem,simprocAttr,Qa,qY,qh,l1,l2,l3]
  have UC:∀s,(H.set (L.le j) ⟨.one,0,60,1,fun _=>Jr (qD L.lq y) s⟩)[L.le j]? = some ⟨.one,0,60,1,fun _=>Jr (qD L.lq y) s⟩:=fun s=>Qw qh
  have UD:∀s,L.le j<(H.set (L.le j) s).length:=fun s=>by simpa using qh
  refine QA Qe hb 200 mixed [(0,true),(1,true),(2,true),(3,true),(4,true),(5,true),(6,true),(7,true),(8,true),(9,true),(10,true),(11,true),(12,true),(13,true),(14,true),(15,false),(16,true),(17,true),(18,false)] (by kernel_rfl) (by kernel_rfl) ?_
  simp only[go_sem,simprocAttr,Qa,UC,UD,qh]
  refine Zt hb QiP rfl ?_ (Qmp y.cp zP.cp (Jq y.c.ul) zP.c.2.2.2.2.2.1.lt now y.ZM Vo zP.ZM) (Ql.flat rfl) rfl fun d h hR=>?_
  ·simp only[go_sem,simprocAttr,Qa,UC,UD,u1,u2,u3,qh]
  obtain⟨rfl,rfl⟩:=hR
  refine QF hb ?_
  simp only[go_sem,simprocAttr,Qa,UC,UD,u1,u2,u3,qh]
  have C4:=Ck.qF hy (jJ Mk now) (fun _=>rfl) (fun _=>rfl) (ud Ik Vo zP)
  have D4:=QZ.set (own:=own') (h:=H) (Wb (qD L.lq y) (jJ Mk now y)) (l:=L.le j) (by rw[(Ck.Zz j y hy).2];simp)
  refine⟨Qn,_,Qk.frame (by simp only[go_sem,simprocAttr,Q3,QQ]),HS.of (by rw[Zj];exact C4) (Dk.trans D4) y9 (by rw[Qt QD];exact Z6)⟩
theorem Qoy {S:Nat→Prop} {h:List Ob} {p:Nat} {T:List Qj} {A:List Int} (O:Xv S h p T A) (leaf:Int) (c:Qj) (hc:Qr T leaf=some c) (W9:¬ 1<QI c.ls) :
  QH prog 118 h [.ptr p 0 0 0,Qb leaf] (fun d h'=>d=.tup [.nil,Qb 6]∧h'=h):=by
 obtain⟨b1,b2,b3,c1,c2,c3,Jd,Jj,Jo,kl,O⟩:=O
 have ho:=O.o
 have m1:=O.m1
 have k1:=O.f1.at_ leaf
 rw[YX,hc]at k1
 simp only[if_neg W9]at k1
 refine QX Qe 200 func118 rfl ntmps118 results118 rfl fun base w pl hb=>?_
 have Qf:=Qd ho
 have YY:=Qd m1
 simp only[go_sem,simprocAttr,Qa,ho,Qf,m1,YY,k1,Go.undef]
def jK:Sh:=⟨false,⟨⟨0,0,0⟩,⟨0,0,0⟩,false⟩,0⟩
theorem ug:jK.Ok:=⟨⟨Ln.Yv,Ln.Yv⟩,by decide⟩
def VR (M:Qh) (c:Int):Qh:={ M with N:=J1 M.N c fun n=>{ n with sh:=jK } }
def Kq (M:Qh) (j:Int):Qh:={ M with KT:=fun i=>if i=(Qx M j).c.parent then JH j (M.KT (Qx M j).c.parent) else M.KT i }
def ZO (M:Qh) (j:Int):Qh:=
 if JH j (M.KT (Qx M j).c.parent)=[] then (KZ M.T (Qx M j).c.parent).foldl VR (Kq M j) else Kq M j
def Xf (M:Qh) (id:Int):Qh:=
 if 1<QI (Qx M id).c.ls then (VI M.T (Z1 M.A id) id).foldl ZO { M with A:=Z1 M.A id } else M
theorem Qy.VR {M:Qh} (I:Qy M) (c:Int):Qy (VR M c):=I.J1 c (fun n=>{ n with sh:=jK }) fun _=>rfl
theorem On:∀(l:List Int) (M:Qh),(l.foldl VR M).T=M.T∧(l.foldl VR M).A=M.A∧(l.foldl VR M).KT=M.KT∧(l.foldl VR M).lk=M.lk∧(l.foldl VR M).Zd=M.Zd∧(l.foldl VR M).acc=M.acc∧(l.foldl VR M).Lv=M.Lv
 | [],M=>⟨rfl,rfl,rfl,rfl,rfl,rfl,rfl⟩
 | j::l,M=>On l (VR M j)
theorem Qy.UE:∀(l:List Int) {M:Qh},Qy M→Qy (l.foldl X.VR M)
 | [],M,I=>I
 | j::l,M,I=>Qy.UE l (I.VR j)
theorem Qy.Kq {M:Qh} (I:Qy M) (j:Int):Qy (Kq M j):=by
 refine⟨I.tree,I.wK,I.to,I.nodes,I.VD,I.ks,I.jH,fun i x hx=>?_,fun i x hx=>?_,I.Zd,I.acc⟩
 ·unfold X.Kq at hx
  dsimp only at hx
  split at hx
  ·rename_i hj
   subst hj
   exact I.Yy _ x (List.mem_filter.1 hx).1
  ·exact I.Yy _ x hx
 ·unfold X.Kq at hx
  dsimp only at hx
  split at hx
  ·exact I.Yz _ x (List.mem_filter.1 hx).1
  ·exact I.Yz _ x hx
theorem Qy.ZO {M:Qh} (I:Qy M) (j:Int):Qy (ZO M j):=by
 unfold X.ZO
 split
 ·exact Qy.UE _ (I.Kq j)
 ·exact I.Kq j
theorem Qy.HY:∀(l:List Int) {M:Qh},Qy M→Qy (l.foldl X.ZO M)
 | [],M,I=>I
 | j::l,M,I=>Qy.HY l (I.ZO j)
theorem uh (M:Qh) (j:Int):(ZO M j).T=M.T∧(ZO M j).A=M.A∧(ZO M j).lk=M.lk∧(ZO M j).Zd=M.Zd∧(ZO M j).acc=M.acc∧(ZO M j).Lv=M.Lv:=by
 unfold ZO
 split
 ·obtain⟨a1,a2,a3,a4,a5,a6,a7⟩:=On (KZ M.T (Qx M j).c.parent) (Kq M j)
  exact⟨a1,a2,a4,a5,a6,a7⟩
 ·exact⟨rfl,rfl,rfl,rfl,rfl,rfl⟩
theorem EZ:∀(l:List Int) (M:Qh),(l.foldl ZO M).T=M.T∧(l.foldl ZO M).A=M.A∧(l.foldl ZO M).lk=M.lk∧(l.foldl ZO M).Zd=M.Zd∧(l.foldl ZO M).acc=M.acc∧(l.foldl ZO M).Lv=M.Lv
 | [],M=>⟨rfl,rfl,rfl,rfl,rfl,rfl⟩
 | j::l,M=>by
  obtain⟨a1,a2,a3,a4,a5,a6⟩:=EZ l (ZO M j)
  obtain⟨b1,b2,b3,b4,b5,b6⟩:=uh M j
  exact⟨a1.trans b1,a2.trans b2,a3.trans b3,a4.trans b4,a5.trans b5,a6.trans b6⟩
theorem Qy.Xf {M:Qh} (I:Qy M) (id:Int):Qy (Xf M id):=by
 unfold X.Xf
 split
 ·exact Qy.HY _ (I.act (I.VD.off id))
 ·exact I
structure E0 (own:Nat→Tag) (h:List Ob) (p:Nat) (L:Loc) (M:Qh) (lo g:Nat) (row:Nat→List D) (U:List Int) (k:Nat) (s:St):Prop where
 ex:∃own' H,Q7 own' H p L ((U.take k).foldl ZO M)∧QZ own h own' H∧own' lo=.on∧H[lo]? = some ⟨.arr,g,1,U.length,row⟩ ∧
  s=⟨[(0,.ptr p 0 0 0),(22,.ref lo g 0 U.length),(23,Qb U.length),(24,Qb k)],H⟩
theorem E0.of {own:Nat→Tag} {h:List Ob} {p:Nat} {L:Loc} {M:Qh} {lo g:Nat} {row:Nat→List D} {U:List Int} {k:Nat} {own':Nat→Tag} {H:List Ob} (C:Q7 own' H p L ((U.take k).foldl ZO M)) (D:QZ own h own' H) (h1:own' lo=.on) (h2:H[lo]? = some ⟨.arr,g,1,U.length,row⟩) :
  E0 own h p L M lo g row U k ⟨[(0,.ptr p 0 0 0),(22,.ref lo g 0 U.length),(23,Qb U.length),(24,Qb k)],H⟩:=⟨⟨own',H,C,D,h1,h2,rfl⟩⟩
structure HZ (own:Nat→Tag) (h:List Ob) (p:Nat) (L:Loc) (M:Qh) (lo g:Nat) (row:Nat→List D) (U V:List Int) (k:Nat) (i:Nat) (s:St):Prop where
 ex:∃own' H,Q7 own' H p L ((V.take i).foldl VR M)∧QZ own h own' H∧own' lo=.on∧H[lo]? = some ⟨.arr,g,1,U.length,row⟩ ∧
  s=⟨[(0,.ptr p 0 0 0),(22,.ref lo g 0 U.length),(23,Qb U.length),(24,Qb k),(59,ints V),(60,Qb V.length),(61,Qb i)],H⟩
theorem HZ.of {own:Nat→Tag} {h:List Ob} {p:Nat} {L:Loc} {M:Qh} {lo g:Nat} {row:Nat→List D} {U V:List Int} {k i:Nat} {own':Nat→Tag} {H:List Ob} (C:Q7 own' H p L ((V.take i).foldl VR M)) (D:QZ own h own' H) (h1:own' lo=.on) (h2:H[lo]? = some ⟨.arr,g,1,U.length,row⟩) :
  HZ own h p L M lo g row U V k i ⟨[(0,.ptr p 0 0 0),(22,.ref lo g 0 U.length),(23,Qb U.length),(24,Qb k),(59,ints V),(60,Qb V.length),(61,Qb i)],H⟩:=⟨⟨own',H,C,D,h1,h2,rfl⟩⟩
theorem Qoz {own:Nat→Tag} {h:List Ob} {p:Nat} {L:Loc} {M:Qh} (C:Q7 own h p L M) (I:Qy M) {id:Int} {n:Nd} (hn:Qg M.N id=some n) (hl:n.c.leaf=true) (V3:1<QI n.c.ls→id∈M.A) (Z9:Zu M.T (Z1 M.A id) id=false) :
  QH prog 42 h [.ptr p 0 0 0,Qb id] (fun d h'=>∃own',Q7 own' h' p L (Xf M id)∧Qy (Xf M id)∧QZ own h own' h'):=by
 have ho:=C.ob
 have Zy:Qx M id=n:=by unfold Qx;rw[hn];rfl
 have KB:Qr M.T id=some n.c:=I.some hn
 have hO:=C.Ws
 have hlen:=I.tree.len
 rw[I.to]at hO
 by_cases hs:1<QI n.c.ls
 case neg=>
  have hM:Xf M id=M:=by unfold Xf;rw[Zy,if_neg hs]
  refine QX Qe 200 func42 rfl ntmps42 results42 rfl fun base w pl hb=>?_
  have Qf:=Qd ho
  simp only[go_sem,simprocAttr,Qa,ho,Qf]
  refine QT hb oq rfl ?_ (Qoy hO id n.c KB hs) rfl fun d h9 hR=>?_
  ·simp only[go_sem,simprocAttr]
  obtain⟨rfl,rfl⟩:=hR
  refine Qc hb ?_
  simp only[go_sem,simprocAttr,Qa]
  rw[hM]
  exact⟨own,C,I,QZ.refl own h9⟩
 have hM:Xf M id=(VI M.T (Z1 M.A id) id).foldl ZO { M with A:=Z1 M.A id }:=by unfold Xf;rw[Zy,if_pos hs]
 have I9:Qy { M with A:=Z1 M.A id }:=I.act (I.VD.off id)
 have UF:=Qy.HY (VI M.T (Z1 M.A id) id) I9
 rw[hM]
 refine QX Qe 200 func42 rfl ntmps42 results42 rfl fun base w pl hb=>?_
 have Qf:=Qd ho
 simp only[go_sem,simprocAttr,Qa,ho,Qf]
 refine QT hb oq rfl ?_ (Qld hO I.tree I.VD id n.c KB hl hs (V3 hs) Z9) rfl fun d h9 hR=>?_
 ·simp only[go_sem,simprocAttr]
 obtain⟨d1,rfl,kE,O9,s9⟩:=hR
 rw[← I.to]at O9
 have C9:=C.act O9 s9
 have D9:=QZ.of (own:=own) (t:=.on) (by simp) s9
 obtain⟨U,hU⟩:∃U,U=VI M.T (Z1 M.A id) id:=⟨_,rfl⟩
 rw[← hU]at kE UF ⊢
 have Of:U.length≤16:=by
  rw[hU]
  exact Nat.le_trans (List.takeWhile_sublist _).length_le kQ
 have UB:∀j∈U,j∈up M.T id:=fun j hj=>by rw[hU]at hj;exact(List.takeWhile_sublist _).subset hj
 obtain⟨M9,HT⟩:∃M9,M9={ M with A:=Z1 M.A id }:=⟨_,rfl⟩
 have Oj:M9.T=M.T:=by rw[HT]
 rw[← HT]at C9 I9 UF ⊢
 rcases kE with ⟨rfl,HU⟩|⟨lo,g,off,row,rfl,⟨Zr,rfl⟩,Cw,ZR⟩
 ·exfalso
  rw[hU,VI,JS I.tree KB,List.takeWhile_cons,Z9]at HU
  cases HU
 have Qox:=Qd Cw
 rw[Nat.zero_add]at Cw
 refine Qc hb ?_
 simp only[go_sem,simprocAttr,Qa]
 refine Zv (E0 own h p L M9 lo g row U) U.length (Qk.frame (by simp only[go_sem,simprocAttr])) (E0.of (k:=0) C9 D9 (by unfold Za;rw[if_pos Zr]) Cw) ?_
 rintro k _ hk ⟨own',H,Ck,Dk,y9,Z6,rfl⟩
 have HV:=Qd Z6
 by_cases Qn:k<U.length
 case neg=>
  have ZE:k=U.length:=by omega
  have dk:=decide_eq_false Qn
  rw[ZE,List.take_length]at Ck
  refine Qc hb ?_
  simp only[go_sem,simprocAttr,Qa,dk]
  exact⟨own',Ck,UF,Dk⟩
 have dk:=decide_eq_true Qn
 obtain⟨j,hj⟩:∃j,j=U.getD k 0:=⟨_,rfl⟩
 have yo:j∈up M.T id:=UB j (by rw[hj];exact jo U 0 k Qn)
 have HW:row k=[Qb j]:=by have:=ZR k Qn;rw[Nat.zero_add]at this;rw[this,hj]
 have Zj:(U.take (k+1)).foldl ZO M9=ZO ((U.take k).foldl ZO M9) j:=by
  rw[getD_take U 0 k Qn,List.foldl_append,← hj];rfl
 have Ik:=Qy.HY (U.take k) I9
 have Cy:=(EZ (U.take k) M9).1
 obtain⟨Mk,ym⟩:∃Mk,Mk=(U.take k).foldl ZO M9:=⟨_,rfl⟩
 rw[← ym]at Ck Ik Cy Zj
 obtain⟨y,hy⟩:∃y,Qg Mk.N j=some y:=by
  have VX:=BS yo
  rw[← Oj,← Cy,Ik.find]at VX
  cases hq:Qg Mk.N j with
  | none=>rw[hq]at VX;cases VX
  | some y=>exact⟨y,rfl⟩
 have Hz:Qx Mk j=y:=by unfold Qx;rw[hy];rfl
 have VN:=Ck.look hy
 have VQ:=Ck.ob
 have YA:=Qd VQ
 have YB:=Ck.JK
 have AP:=Qd YB
 have qY:=(Ck.Zz j y hy).1
 have qh:=Qd qY
 have xN:=Ck.J5
 have Ng:=Qd xN
 have WK:=Uv Ik hy
 have Wv:=Ck.Vm.at_ y.c.parent
 rw[if_pos WK]at Wv
 have zQ:=Ck.kids _ WK
 have Q3:=JX (show k<4611686018427387904 by omega)
 have BP:=HO Ik.tree zQ.nd (Ik.Uu _)
 refine Qc hb ?_
 simp only[go_sem,simprocAttr,Qa,dk,Qn,HW,VQ,YA,YB,AP,Z6,HV,VN,qY,qh,xN,Ng,Wv]
 refine QT hb QiJ rfl ?_ (Qlr zQ j (by omega)) rfl fun d YJ hR=>?_
 ·simp only[go_sem,simprocAttr]
 obtain⟨rfl,ui,UG⟩:=hR
 have zO:=Ck.VB _ WK ui UG
 have AO:=Dk.trans (QZ.of (t:=.VB y.c.parent) (by simp) UG)
 have EA:{ Mk with KT:=fun i=>if i=y.c.parent then JH j (Mk.KT y.c.parent) else Mk.KT i }=Kq Mk j:=by unfold Kq;rw[Hz]
 rw[EA]at zO
 have Om:=Ik.Kq j
 have Ol:Za own' H (.VB y.c.parent) lo=.on:=by rw[qc HV];exact y9
 have uj:YJ[lo]? = some ⟨.arr,g,1,U.length,row⟩:=(UG.keep lo HV (by rw[y9];simp)).trans Z6
 have H0:ZO Mk j=if JH j (Mk.KT y.c.parent)=[] then (KZ Mk.T y.c.parent).foldl VR (Kq Mk j) else Kq Mk j:=by unfold ZO;rw[Hz]
 have vu:=zO.ob
 have E3:=Qd vu
 have uk:=zO.J5
 have QoA:=Qd uk
 have um:=zO.Vm.at_ y.c.parent
 rw[if_pos (show (Kq Mk j).ks y.c.parent=true from WK)]at um
 have E4:xZ YJ (L.lk y.c.parent) (JH j (Mk.KT y.c.parent)):=ui.toR
 refine Qc hb ?_
 simp only[go_sem,simprocAttr,Qa,vu,E3,uk,QoA,um]
 refine QK hb RE rfl ?_ (S9 E4) rfl fun d hR=>?_
 ·simp only[go_sem,simprocAttr,Qa,vu,E3]
 subst hR
 refine Qc hb ?_
 simp only[go_sem,simprocAttr,Qa,vu,E3]
 by_cases hz:JH j (Mk.KT y.c.parent)=[]
 case neg=>
  have j9:0<(JH j (Mk.KT y.c.parent)).length:=List.length_pos_iff.2 hz
  have dz:decide ((0:Int)<((JH j (Mk.KT y.c.parent)).length:Int))=true:=decide_eq_true (by omega)
  rw[if_neg hz]at H0
  simp only[go_sem,simprocAttr,Qa,dz]
  exact⟨Qn,_,Qk.frame (by simp only[go_sem,simprocAttr,Q3]),E0.of (by rw[Zj,H0];exact zO) AO Ol uj⟩
 rw[if_pos hz]at H0
 have dz:decide ((0:Int)<((JH j (Mk.KT y.c.parent)).length:Int))=false:=decide_eq_false (by rw[hz];simp)
 simp only[go_sem,simprocAttr,Qa,dz,vu,E3]
 refine QK hb Ru rfl ?_ (Qk7 zO.tr.toR (by have:=Om.tree.len;omega) y.c.parent) rfl fun d hR=>?_
 ·simp only[go_sem,simprocAttr,Qa,vu,E3]
 subst hR
 refine Qc hb ?_
 simp only[go_sem,simprocAttr,Qa,vu,E3]
 obtain⟨V,hV⟩:∃V,V=KZ Mk.T y.c.parent:=⟨_,rfl⟩
 have hVl:V.length≤64:=by
  rw[hV];unfold KZ;rw[List.length_map]
  exact Nat.le_trans (List.length_filter_le _ _) Ik.tree.len
 have hVm:∀c∈V,(Qr Mk.T c).isSome=true:=fun c hc=>by
  rw[hV]at hc
  obtain⟨x,hx,rfl⟩:=List.mem_map.1 hc
  rw[(KY Ik.tree.rising).2 ⟨(List.mem_filter.1 hx).1,rfl⟩];rfl
 rw[show KZ (Kq Mk j).T y.c.parent=V from hV.symm]
 rw[← hV]at H0
 refine Zv (HZ own h p L (Kq Mk j) lo g row U V k) V.length (Qk.frame (by simp only[go_sem,simprocAttr])) (HZ.of (i:=0) zO AO Ol uj) ?_
 rintro i _ hi ⟨zR,H5,C5,D5,yp,uo,rfl⟩
 by_cases ja:i<V.length
 case neg=>
  have Wz:i=V.length:=by omega
  have di:=decide_eq_false ja
  rw[Wz,List.take_length]at C5
  refine Qc hb ?_
  simp only[go_sem,simprocAttr,Qa,di]
  refine Qc hb ?_
  simp only[go_sem,simprocAttr,Qa]
  exact⟨Qn,_,Qk.frame (by simp only[go_sem,simprocAttr,Q3]),E0.of (by rw[Zj,H0];exact C5) D5 yp uo⟩
 have di:=decide_eq_true ja
 have hwi:=JX (show i<4611686018427387904 by omega)
 obtain⟨c,hc⟩:∃c,c=V.getD i 0:=⟨_,rfl⟩
 have hcV:c∈V:=by rw[hc];exact jo V 0 i ja
 have uq:(V.take (i+1)).foldl VR (Kq Mk j)=VR ((V.take i).foldl VR (Kq Mk j)) c:=by
  rw[getD_take V 0 i ja,List.foldl_append,← hc];rfl
 have I5:=Qy.UE (V.take i) Om
 have ur:=(On (V.take i) (Kq Mk j)).1
 obtain⟨M5,E5⟩:∃M5,M5=(V.take i).foldl VR (Kq Mk j):=⟨_,rfl⟩
 rw[← E5]at C5 I5 ur uq
 obtain⟨x,hx⟩:∃x,Qg M5.N c=some x:=by
  have VX:=hVm c hcV
  rw[show Mk.T=M5.T from ur.symm,I5.find]at VX
  cases hq:Qg M5.N c with
  | none=>rw[hq]at VX;cases VX
  | some x=>exact⟨x,rfl⟩
 have zN:=C5.Wt c x hx
 have Oo:=C5.look hx
 have wL:=C5.ob
 have E6:=Qd wL
 have wJ:=C5.JK
 have Oq:=Qd wJ
 have Cz:=(C5.Zz c x hx).1
 have vv:=Qd Cz
 have QD:L.le c≠lo:=fun e=>by have h1:=(C5.Zz c x hx).2;rw[e,yp]at h1;cases h1
 refine Qc hb ?_
 simp only[go_sem,simprocAttr,Qa,di,ja,← hc,wL,E6,wJ,Oq,Oo,Cz,vv]
 have C6:=C5.qF hx (fun n=>{ n with sh:=jK }) (fun _=>rfl) (fun _=>rfl) ⟨zN.ZM,zN.du,ug,zN.cp,zN.c⟩
 have D6:=QZ.set (own:=zR) (h:=H5) (Wb (qD L.lq x) { x with sh:=jK }) (l:=L.le c) (by rw[(C5.Zz c x hx).2];simp)
 have vP:(⟨.one,0,60,1,fun _=>List.take 38 (Jr (qD L.lq x) x)++.raw (.bool false)::.raw (.int .u64 0)::.raw (.int .u64 0)::.raw (.int .u64 0)::.raw (.int .u64 0)::.raw (.int .u64 0)::.raw (.int .u64 0)::.raw (.int .u64 0)::.raw (.int .u64 0)::.raw (.bool false)::.raw (.int .u64 0)::List.drop 49 (Jr (qD L.lq x) x)⟩:Ob)=Wb (qD L.lq x) { x with sh:=jK }:=by
  unfold Wb
  rw[← Qoo (qD L.lq x) x jK]
  rfl
 rw[vP]
 refine⟨_,Qk.frame (by simp only[go_sem,simprocAttr,hwi]),HZ.of (by rw[uq];exact C6) (D5.trans D6) yp (by rw[Qt QD];exact uo)⟩
def firstM (M:Qh) (now:Nat) (id:Int):Option It:=(M.KT id).find? fun x=>decide (x.va≤min now 9223372036854775807)
def jL (M:Qh) (now:Nat):Nat→Int→Option Int
 | 0,_=>none
 | n+1,id=>match firstM M now id with
  | none=>none
  | some x=>if (Qx M x.ki).c.leaf=true then some x.ki else jL M now n x.ki
def uu (o:Option Int):D:=.tup [Qb (o.getD 0),QN false,QN o.isSome]
def qZ (M:Qh) (now:Nat) (o:Option It):Prop:=zD o (M.Lv.filter fun x=>decide (x.ka≤min now 9223372036854775807))
def E7 (M:Qh) (now:Nat) (o:Option It):D:=match o with
 | some x=>.tup [Qb x.ki,QN true,QN true]
 | none=>uu (jL M now 17 0)
section
variable {own:Nat→Tag} {h:List Ob} {p:Nat} {L:Loc} {M:Qh} (C:Q7 own h p L M) (I:Qy M)
include C I
theorem QoE (now:Nat):QP prog 35 h [.ptr p 0 0 0,u64 now] (fun d=>∃o,qZ M now o∧d=E7 M now o):=by
 have ho:=ZA C.ob
 have hm:=ZA C.J5
 have Zf:=ZA C.JK
 have hv:=C.VC.toR
 refine Zi Qe 200 func35 rfl ntmps35 results35 rfl fun base w pl F hF QS hb=>?_
 rw[← hF]at ho hm Zf
 have Qf:=Qd ho
 have QO:=Qd hm
 have qI:=Qd Zf
 simp only[go_sem,simprocAttr,Qa,ho,Qf,hm,QO,Zf,qI]
 refine QK hb QiD rfl ?_ (Qls (hv.more (Jk hF)) now) rfl fun d hR=>?_
 ·simp only[go_sem,simprocAttr,Qa,ho,Qf]
 obtain⟨o,UH,rfl⟩:=hR
 refine Qc hb ?_
 simp only[go_sem,simprocAttr,Qa,ho,Qf]
 cases o with
 | some x=>
  simp only[go_sem,simprocAttr,Qa,Option.isSome_some,Option.getD_some]
  exact⟨[],(List.append_nil F).symm,some x,UH,rfl⟩
 | none=>
  simp only[go_sem,simprocAttr,Qa,Option.isSome_none]
  have Qvo:(up M.T 0).length=0:=by rw[BR I.tree];rfl
  refine Dt (fun n st=>∃id,M.ks id=true∧(up M.T id).length+n=16∧jL M now 17 0=jL M now (n+1) id∧st=⟨[(0,.ptr p 0 0 0),(1,u64 now),(9,Qb id)],F⟩) 16 (Qk.frame (by simp only[go_sem,simprocAttr])) ⟨0,(I.ks 0).2 (.inl rfl),by omega,rfl,rfl⟩ ?_
  rintro n _ ⟨id,WK,hlen,jM,rfl⟩
  have Wv:=C.Vm.at_ id
  rw[if_pos WK]at Wv
  have hT:=(C.kids id WK).toR
  conv at jM=>rhs;rw[jL]
  refine Qc hb ?_
  simp only[go_sem,simprocAttr,Qa,ho,Qf,hm,QO,Wv]
  refine QK hb QiE rfl ?_ (Qlo (hT.more (Jk hF)) now) rfl fun d hR=>?_
  ·simp only[go_sem,simprocAttr,Qa,ho,Qf]
  subst hR
  refine Qc hb ?_
  simp only[go_sem,simprocAttr,Qa,ho,Qf]
  have hfm:(M.KT id).find? (fun x=>decide (x.va≤min now 9223372036854775807))=firstM M now id:=rfl
  rw[hfm]
  cases hq:firstM M now id with
  | none=>
   rw[hq]at jM
   simp only[go_sem,simprocAttr,Qa,Option.isSome_none]
   exact⟨[],(List.append_nil F).symm,none,UH,by unfold E7;rw[jM];rfl⟩
  | some x=>
   rw[hq]at jM
   have yq:x∈M.KT id:=List.mem_of_find?_eq_some hq
   obtain⟨c,hc,Wp⟩:=I.Yy id x yq
   obtain⟨y,hy,hyc⟩:=I.HN hc
   have Hz:Qx M x.ki=y:=by unfold Qx;rw[hy];rfl
   have Ot:(up M.T x.ki).length=(up M.T id).length+1:=by rw[JS I.tree hc,Wp];rfl
   have h16:(up M.T x.ki).length≤16:=kQ
   have VN:=C.look hy
   have he:=ZA (C.Zz x.ki y hy).1
   rw[← hF]at he
   have Zm:=Qd he
   dsimp only at jM
   rw[Hz]at jM
   simp only[go_sem,simprocAttr,Qa,Option.isSome_some,Option.getD_some,ho,Qf,Zf,qI,VN,he,Zm]
   cases hl:y.c.leaf with
   | true=>
    rw[hl,if_pos rfl]at jM
    simp only[go_sem,simprocAttr,Qa]
    exact⟨[],(List.append_nil F).symm,none,UH,by unfold E7;rw[jM];rfl⟩
   | false=>
    rw[hl,if_neg (by decide)]at jM
    obtain⟨n,rfl⟩:∃n',n=n'+1:=⟨n - 1,by omega⟩
    simp only[go_sem,simprocAttr,Qa]
    exact⟨n,_,by omega,Qk.frame (by simp only[go_sem,simprocAttr]),x.ki,(I.ks _).2 (.inr ⟨y,hy,hl⟩),by omega,jM,rfl⟩
end
theorem QoG {T:List Qj} (I:JD T) {id a:Int} {c:Qj} (hc:Qr T id=some c) (hl:c.leaf=true) (h:id∈up T a):a=id:=by
 refine Classical.byContradiction fun QD=>?_
 obtain⟨i,d,h1,h2,h3⟩:=Nk I h QD
 have h0:d.parent≠0:=fun e=>by rw[← h3,e,BQ I]at hc;cases hc
 obtain⟨e,h4,h5⟩:=I.XN d (zB I h2) h0
 rw[h3,hc]at h4
 cases h4
 rw[hl]at h5;cases h5
theorem Ou {T:List Qj} (I:JD T) {id:Int} {c:Qj} (hc:Qr T id=some c) (hl:c.leaf=true) (A:List Int):Zu T A id=true↔id∈A:=by
 rw[V6]
 constructor
 ·rintro⟨a,ha,h⟩
  rw[← QoG I hc hl h];exact ha
 ·exact fun h=>⟨id,h,VH I hc⟩
theorem QoH {T:List Qj} (I:JD T) {id:Int} {c:Qj} (hc:Qr T id=some c) (hl:c.leaf=true) (A:List Int):Zu T (Z1 A id) id=false:=by
 rw[Bool.eq_false_iff]
 intro h
 have:=(Ou I hc hl _).1 h
 simp [Z1]at this
def wN (len:Nat) (n:Nd):Nd:={ n with ZM:=Vf (n.ZM+len),sh:=AJ n.sh (Vf (n.ZM+len)),cp:=wz n.cp (Vf (n.ZM+len)) }
def Ki (len:Nat) (M:Qh) (j:Int):Qh:={ M with N:=J1 M.N j (wN len) }
theorem uv {n:Nd} (h:n.Ok) (len:Nat):(wN len n).Ok:=⟨B9 _,h.du,Qmj h.sh _,Qmn h.cp _,h.c⟩
theorem Qy.Ki {M:Qh} (I:Qy M) (len:Nat) (j:Int):Qy (Ki len M j):=I.J1 j (wN len) fun _=>rfl
theorem Qy.UI {len:Nat}:∀(l:List Int) {M:Qh},Qy M→Qy (l.foldl (X.Ki len) M)
 | [],M,I=>I
 | j::l,M,I=>Qy.UI l (I.Ki len j)
theorem H9 (len:Nat):∀(l:List Int) (M:Qh),(l.foldl (Ki len) M).T=M.T∧(l.foldl (Ki len) M).A=M.A∧(l.foldl (Ki len) M).KT=M.KT∧(l.foldl (Ki len) M).lk=M.lk∧(l.foldl (Ki len) M).Zd=M.Zd∧(l.foldl (Ki len) M).acc=M.acc∧(l.foldl (Ki len) M).Lv=M.Lv
 | [],M=>⟨rfl,rfl,rfl,rfl,rfl,rfl,rfl⟩
 | j::l,M=>H9 len l (Ki len M j)
theorem uw {N:List Nd} {j:Int} {f:Nd→Nd} (hc:∀n,(f n).c=n.c) (i:Int) {n:Nd} (h:Qg N i=some n):∃m,Qg (J1 N j f) i=some m∧m.c=n.c∧(m=n∨(i=j∧m=f n)):=by
 rw[Wu (fun n=>by rw[hc])]
 by_cases e:i=j
 ·rw[if_pos e,h];exact⟨f n,rfl,hc n,.inr ⟨e,rfl⟩⟩
 ·rw[if_neg e];exact⟨n,h,rfl,.inl rfl⟩
theorem ux (len:Nat):∀(l:List Int) (M:Qh) (i:Int) {n:Nd},Qg M.N i=some n→∃m,Qg (l.foldl (Ki len) M).N i=some m∧m.c=n.c∧m.q=n.q∧m.du=n.du
 | [],M,i,n,h=>⟨n,h,rfl,rfl,rfl⟩
 | j::l,M,i,n,h=>by
  obtain⟨m,h1,h2,h3⟩:=uw (f:=wN len) (j:=j) (fun _=>rfl) i h
  obtain⟨m2,h4,h5,h6,h7⟩:=ux len l (Ki len M j) i h1
  refine⟨m2,h4,h5.trans h2,?_,?_⟩
  ·rw[h6];rcases h3 with rfl|⟨_,rfl⟩<;>rfl
  ·rw[h7];rcases h3 with rfl|⟨_,rfl⟩<;>rfl
def Wc (M:Qh) (id:Int):Qh:={ M with N:=J1 M.N id fun n=>{ n with q:=Vg (Qx M id).q } }
theorem Qy.Wc {M:Qh} (I:Qy M) (id:Int):Qy (Wc M id):=I.J1 id (fun n=>{ n with q:=Vg (Qx M id).q }) fun _=>rfl
theorem Qy.Vn {M:Qh} (I:Qy M) {id:Int} {n:Nd} (hn:Qg M.N id=Option.some n) (ZU:Int) (r:Bool):Qy (Vn M id ZU r):=by
 unfold X.Vn
 split
 ·refine(I.J1 id (fun n=>{ n with du:=Xe (Qx M id) ZU r }) fun _=>rfl).lv fun x hx=>?_
  have KS:x.ki=id∨x∈M.Lv:=by
   split at hx
   ·exact HQ (List.mem_filter.1 hx).1
   ·exact HQ hx
  rcases KS with h|h
  ·rw[h]
   show (Qr M.T id).isSome=true
   rw[I.some hn];rfl
  ·exact I.jH x h
 ·exact I
theorem Ov (M:Qh) (id:Int) (ZU:Int) (r:Bool):(Vn M id ZU r).T=M.T∧(Vn M id ZU r).A=M.A∧(Vn M id ZU r).KT=M.KT∧(Vn M id ZU r).lk=M.lk∧(Vn M id ZU r).Zd=M.Zd∧(Vn M id ZU r).acc=M.acc:=by
 unfold Vn;split<;>exact⟨rfl,rfl,rfl,rfl,rfl,rfl⟩
theorem QoI (M:Qh) (id:Int) (ZU:Int) (r:Bool) (i:Int) {n:Nd} (h:Qg M.N i=some n):∃m,Qg (Vn M id ZU r).N i=some m∧m.c=n.c∧m.q=n.q:=by
 unfold Vn
 split
 ·obtain⟨m,h1,h2,h3⟩:=uw (f:=fun n=>{ n with du:=Xe (Qx M id) ZU r }) (j:=id) (fun _=>rfl) i h
  exact⟨m,h1,h2,by rcases h3 with rfl|⟨_,rfl⟩<;>rfl⟩
 ·exact⟨n,h,rfl,rfl⟩
def JW (M:Qh) (now:Nat) (o:Option It):Option (Int × Bool):=match o with
 | some x=>some (x.ki,true)
 | none=>(jL M now 17 0).map fun id=>(id,false)
def XB (M:Qh) (id:Int) (r:Bool):Qh:=
 let len:=((Qx M id).q.l.headD default).len
 let M3:=Vn ((up M.T id).foldl (Ki len.toNat) (Wc M id)) id len r
 let M4:=if (Vg (Qx M id).q).l=[] then Xf M3 id else M3
 JT M4 (up M.T id)
@[go_sem] def vw (id:Int) (x:Pk) (r:Bool):List D:=[Qb id,.raw (.int .u64 x.iD),.raw (.int .i64 x.len),.raw (.int .u16 x.GF),.raw (.int .u16 x.GG),.raw (.int .u16 x.GH),.raw (.int .u16 x.GI),QN r]
@[go_sem] def YC:Ob:=⟨.one,0,8,1,fun _=>vw 0 default false⟩
@[go_sem] def WL (x:Pk):Ob:=⟨.one,0,6,1,fun _=>x.cells⟩
theorem E8 (M:Qh) (now:Nat):(Zn M now).N=M.N∧(Zn M now).T=M.T∧(Zn M now).A=M.A:=by unfold Zn;split<;>exact⟨rfl,rfl,rfl⟩
theorem yr {M:Qh} (I:Qy M) (now:Nat):Qy (Zn M now):=by
 unfold Zn
 split
 ·rename_i h
  unfold qd at h
  simp only[Bool.not_eq_true',Bool.or_eq_false_iff,decide_eq_false_iff_not]at h
  exact⟨I.tree,I.wK,I.to,I.nodes,I.VD,I.ks,I.jH,I.Yy,I.Yz,by show now≤_;omega,I.acc⟩
 ·exact I
structure Ia (own:Nat→Tag) (h:List Ob) (p:Nat) (L:Loc) (M:Qh) (id:Int) (r:Bool) (lb:Nat) (x:Pk) (U:List Int) (k:Nat) (s:St):Prop where
 ex:∃own' H,Q7 own' H p L ((U.take k).foldl (Ki x.len.toNat) M)∧QZ own h own' H∧own' h.length=.no∧H[h.length]? = some YC∧own' lb=.no∧H[lb]? = some (WL x) ∧
  s=⟨[(0,.ptr p 0 0 0),(4,.ptr h.length 0 0 0),(6,Qb id),(7,QN r),(9,.ptr (L.le id) 0 0 0),(10,.ptr lb 0 0 0),(53,ints U),(54,Qb U.length),(55,Qb k)],H⟩
theorem Ia.of {own:Nat→Tag} {h:List Ob} {p:Nat} {L:Loc} {M:Qh} {id:Int} {r:Bool} {lb:Nat} {x:Pk} {U:List Int} {k:Nat} {own':Nat→Tag} {H:List Ob} (C:Q7 own' H p L ((U.take k).foldl (Ki x.len.toNat) M)) (D:QZ own h own' H) (h1:own' h.length=.no) (h2:H[h.length]? = some YC) (h3:own' lb=.no) (h4:H[lb]? = some (WL x)) :
  Ia own h p L M id r lb x U k ⟨[(0,.ptr p 0 0 0),(4,.ptr h.length 0 0 0),(6,Qb id),(7,QN r),(9,.ptr (L.le id) 0 0 0),(10,.ptr lb 0 0 0),(53,ints U),(54,Qb U.length),(55,Qb k)],H⟩:=⟨⟨own',H,C,D,h1,h2,h3,h4,rfl⟩⟩
def Ib (M:Qh) (now:Nat) (d:D) (M':Qh):Prop:=
 (qd M now=false∧d=.tup [.agg (vw 0 default false),QN false]∧M'=M) ∨
 (qd M now=true∧∃o,qZ (Zn M now) now o∧match JW (Zn M now) now o with
  | none=>d=.tup [.agg (vw 0 default false),QN false]∧M'=Zn M now
  | some (id,r)=>d=.tup [.agg (vw id ((Qx M id).q.l.headD default) r),QN true]∧M'=XB (Zn M now) id r)
theorem QoJ {own:Nat→Tag} {h:List Ob} {p:Nat} {L:Loc} {M:Qh} (C:Q7 own h p L M) (I:Qy M) (now:Nat)
  (UJ:∀o id r,qZ (Zn M now) now o→JW (Zn M now) now o=some (id,r)→∃n,Qg M.N id=some n∧n.c.leaf=true∧n.q.l≠[]∧(1<QI n.c.ls→id∈M.A)) :
  QH prog 14 h [.ptr p 0 0 0,u64 now] (fun d h'=>∃own' M',Q7 own' h' p L M'∧Qy M'∧QZ own h own' h'∧Ib M now d M'):=by
 have ho:=C.ob
 have C0:=C.VP [YC]
 have D0:=QZ.app own h [YC] .no
 have zK:Za own h .no h.length=.no:=by unfold Za;rw[if_pos (Nat.le_refl _)]
 have Zf:(h++[YC])[h.length]? = some YC:=by rw[Kc rfl];rfl
 refine QX Qe 200 func14 rfl ntmps14 results14 rfl fun base w pl hb=>?_
 have Qf:=Qd ho
 simp only[go_sem,simprocAttr,Qa,ho,Qf,Go.undef]
 refine QT hb nY rfl ?_ (tZ C0 now) rfl fun d h1 hR=>?_
 ·simp only[go_sem,simprocAttr]
 obtain⟨rfl,C1,D1⟩:=hR
 have I1:=yr I now
 obtain⟨t1,t2,t3⟩:=E8 M now
 have zS:=D0.trans D1
 have Jg:h1[h.length]? = some YC:=(D1.keep h.length (by simp) zK).trans Zf
 have X3:=Qd Jg
 obtain⟨JL,CA⟩:∃o,o=Za own h .no:=⟨_,rfl⟩
 have Xl:∀o,(h1.set h.length o)[h.length]? = some o:=fun o=>Qw X3
 rw[← CA]at zS C1 zK
 refine Qc hb ?_
 cases ht:qd M now with
 | false=>
  simp only[go_sem,simprocAttr,Qa,ht,Go.undef,Jg,X3,Xl]
  have hM:Zn M now=M:=by unfold Zn;rw[ht];rfl
  rw[hM]at C1
  exact⟨JL,M,C1.loc zK _,I,zS.Us (Nat.le_refl _) _,.inl ⟨ht,rfl,rfl⟩⟩
 | true=>
  simp only[go_sem,simprocAttr,Qa,ht,Go.undef,Jg,X3]
  refine QK hb Qin rfl ?_ (QoE C1 I1 now) rfl fun d hR=>?_
  ·simp only[go_sem,simprocAttr,Qa]
  obtain⟨o,UK,rfl⟩:=hR
  refine Qc hb ?_
  have QoK:JW (Zn M now) now o=none→∃own' M',Q7 own' (h1.set h.length YC) p L M'∧Qy M'∧QZ own h own' (h1.set h.length YC)∧Ib M now (.tup [.agg (vw 0 default false),QN false]) M':=fun hp=>
   ⟨JL,Zn M now,C1.loc zK _,I1,zS.Us (Nat.le_refl _) _,.inr ⟨ht,o,UK,by rw[hp];exact⟨rfl,rfl⟩⟩⟩
  have QoL:∀id r own' H,JW (Zn M now) now o=some (id,r)→Q7 own' H p L (XB (Zn M now) id r)→Qy (XB (Zn M now) id r)→QZ own h own' H→Ib M now (.tup [.agg (vw id ((Qx M id).q.l.headD default) r),QN true]) (XB (Zn M now) id r):=fun id r own' H hp _ _ _=>
   .inr ⟨ht,o,UK,by rw[hp];exact⟨rfl,rfl⟩⟩
  obtain⟨id,r,QQ,hp⟩|hp:(∃id r,E7 (Zn M now) now o=.tup [Qb id,QN r,QN true]∧JW (Zn M now) now o=some (id,r))∨(E7 (Zn M now) now o=.tup [Qb 0,QN false,QN false]∧JW (Zn M now) now o=none):=by
   cases o with
   | some x=>exact .inl ⟨x.ki,true,rfl,rfl⟩
   | none=>
    unfold E7 uu JW
    dsimp only
    cases jL (Zn M now) now 17 0 with
    | none=>exact .inr ⟨rfl,rfl⟩
    | some i=>exact .inl ⟨i,false,rfl,rfl⟩
  case inr=>
   obtain⟨hd,hp⟩:=hp
   rw[hd]
   simp only[go_sem,simprocAttr,Qa,Jg,X3,Xl]
   exact QoK hp
  rw[QQ]
  obtain⟨n,hn,hl,hq,V3⟩:=UJ o id r UK hp
  have Jc:Qg (Zn M now).N id=some n:=by rw[t1];exact hn
  have Zy:Qx M id=n:=by unfold Qx;rw[hn];rfl
  have Ic:Qx (Zn M now) id=n:=by unfold Qx;rw[Jc];rfl
  obtain⟨x,q,E9⟩:∃x q,n.q.l=x::q:=by
   cases qT:n.q.l with
   | nil=>exact absurd qT hq
   | cons x q=>exact⟨x,q,rfl⟩
  have VN:=C1.look Jc
  have Zp:=C1.ob
  have KM:=Qd Zp
  have Xm:=C1.JK
  have Ow:=Qd Xm
  have vr:=(C1.Zz id n Jc).1
  have EY:=Qd vr
  obtain⟨kq,Ct,hQ⟩:=C1.KL id n Jc hl
  have EU:=Qy.id hn
  have yn:qD L.lq n=.ptr (L.lq id) 0 0 0:=by unfold qD;rw[if_pos hl,EU]
  rw[yn]at vr
  simp only[go_sem,simprocAttr,Qa,Zp,KM,Xm,Ow,VN,vr,EY]
  refine QT hb Qio rfl ?_ (Qmc hQ E9) rfl fun d h2 hR=>?_
  ·simp only[go_sem,simprocAttr]
  obtain⟨rfl,Q2,s2⟩:=hR
  have C2:=C1.WJ Jc hl Ct Q2 s2
  have UL:{ Zn M now with N:=J1 (Zn M now).N id fun m=>{ m with q:=Vg n.q } }=Wc (Zn M now) id:=by unfold Wc;rw[Ic]
  rw[UL]at C2
  have D2:=zS.trans (QZ.of (t:=.WJ id) (by simp) s2)
  have ZZ:h2[h.length]? = some YC:=(s2.keep h.length X3 (by rw[zK];simp)).trans Jg
  have Va:Za JL h1 (.WJ id) h.length=.no:=by rw[qc X3];exact zK
  have Jf:=s2.len
  have C3:=C2.VP [WL x]
  have D3:=D2.trans (QZ.app _ h2 [WL x] .no)
  have YB:(h2++[WL x])[h.length]? = some YC:=(QU (Qd ZZ)).trans ZZ
  have Au:Za (Za JL h1 (.WJ id)) h2 .no h.length=.no:=by rw[qc (Qd ZZ)];exact Va
  have x5:(h2++[WL x])[h2.length]? = some (WL x):=by rw[Kc rfl];rfl
  have uy:Za (Za JL h1 (.WJ id)) h2 .no h2.length=.no:=by unfold Za;rw[if_pos (Nat.le_refl _)]
  have I3:=I1.Wc id
  have VQ:=C3.ob
  have YA:=Qd VQ
  generalize UM:h2++[WL x]=H3 at C3 D3 YB x5 VQ YA
  generalize Za (Za JL h1 (.WJ id)) h2 .no=WM at C3 D3 Au uy
  refine Qc hb ?_
  simp only[go_sem,simprocAttr,Qa]
  have UN:h2++[(⟨.one,0,6,1,fun _=>[.raw (.int .u64 x.iD),.raw (.int .i64 x.len),.raw (.int .u16 x.GF),.raw (.int .u16 x.GG),.raw (.int .u16 x.GH),.raw (.int .u16 x.GI)]⟩:Ob)]=H3:=UM
  simp only[UN]
  simp only[go_sem,simprocAttr,Qa,VQ,YA]
  refine QK hb MJ rfl ?_ (SQ C3.tr.toR I3.tree.toTreeInv id) rfl fun d hR=>?_
  ·simp only[go_sem,simprocAttr,Qa,VQ,YA]
  subst hR
  refine Qc hb ?_
  simp only[go_sem,simprocAttr,Qa,VQ,YA]
  obtain⟨U,hU⟩:∃U,U=up M.T id:=⟨_,rfl⟩
  have hU3:ZI (Wc (Zn M now) id).T 16 id=U:=by rw[hU];show up (Zn M now).T id=_;rw[t2]
  rw[hU3]
  have Of:U.length≤16:=by rw[hU];exact kQ
  obtain⟨M3,Xg⟩:∃M3,M3=Wc (Zn M now) id:=⟨_,rfl⟩
  have uz:M3.T=M.T:=by rw[Xg];exact t2
  have QoN:M3.A=M.A:=by rw[Xg];exact t3
  rw[← Xg]at C3 I3
  have KS:ED x:=by
   obtain⟨r2,Q⟩:=hQ
   exact Q.lens x (by rw[E9];simp)
  have ex:IntKind.u64.wrap x.len=((x.len.toNat:Nat):Int):=Ca (by have:=KS.1;omega) (by have:=KS.2;omega)
  obtain⟨n3,QoO,uA,QoP⟩:∃m,Qg M3.N id=some m∧m.c=n.c∧m.q=Vg n.q:=by
   rw[Xg]
   unfold Wc
   rw[Ic]
   refine⟨{ n with q:=Vg n.q },?_,rfl,rfl⟩
   rw[Wu (f:=fun m=>{ m with q:=Vg n.q }) (fun _=>rfl),if_pos rfl,Jc];rfl
  refine Zv (Ia own h p L M3 id r h2.length x U) U.length (Qk.frame (by simp only[go_sem,simprocAttr])) (Ia.of (k:=0) C3 D3 Au YB uy x5) ?_
  rintro k _ hk ⟨zR,H5,C5,D5,Ox,wJ,Oy,Fa,rfl⟩
  have Oq:=Qd wJ
  have Oz:=Qd Fa
  have I5:=Qy.UI (len:=x.len.toNat) (U.take k) I3
  obtain⟨kT,kA,kK,klk,kc,ka,kL⟩:=H9 x.len.toNat (U.take k) M3
  by_cases Qn:k<U.length
  case pos=>
   have dk:=decide_eq_true Qn
   obtain⟨j,hj⟩:∃j,j=U.getD k 0:=⟨_,rfl⟩
   have yo:j∈up M.T id:=by rw[hj,← hU];exact jo U 0 k Qn
   have Zj:(U.take (k+1)).foldl (Ki x.len.toNat) M3=Ki x.len.toNat ((U.take k).foldl (Ki x.len.toNat) M3) j:=by
    rw[getD_take U 0 k Qn,List.foldl_append,← hj];rfl
   obtain⟨M5,E5⟩:∃M5,M5=(U.take k).foldl (Ki x.len.toNat) M3:=⟨_,rfl⟩
   rw[← E5]at C5 I5 kT Zj
   obtain⟨y,hy⟩:∃y,Qg M5.N j=some y:=by
    have VX:=BS yo
    rw[← uz,← kT,I5.find]at VX
    cases hq:Qg M5.N j with
    | none=>rw[hq]at VX;cases VX
    | some y=>exact⟨y,rfl⟩
   have zP:=C5.Wt j y hy
   have Oo:=C5.look hy
   have wL:=C5.ob
   have E6:=Qd wL
   have Ie:=C5.JK
   have OA:=Qd Ie
   have Cz:=(C5.Zz j y hy).1
   have vv:=Qd Cz
   have yp:=(C5.Zz j y hy).2
   have Q3:=JX (show k<4611686018427387904 by omega)
   have nb:L.le j≠h.length:=fun e=>by rw[e,Ox]at yp;cases yp
   have nx:L.le j≠h2.length:=fun e=>by rw[e,Oy]at yp;cases yp
   have jN:∀s,(H5.set (L.le j) ⟨.one,0,60,1,fun _=>Jr (qD L.lq y) s⟩)[L.le j]? = some ⟨.one,0,60,1,fun _=>Jr (qD L.lq y) s⟩:=fun s=>Qw vv
   have AB:∀s,(H5.set (L.le j) s)[h2.length]? = some (WL x):=fun s=>(Qt nx).trans Fa
   refine Qc hb ?_
   simp only[go_sem,simprocAttr,Qa,dk,Qn,← hj,wL,E6,Ie,OA,Oo]
   refine QA Qe hb 200 mixed [(0,true),(1,true),(2,true),(3,true),(4,true),(5,true),(6,true),(7,true),(8,true),(9,true),(10,false)] (by kernel_rfl) (by kernel_rfl) ?_
   simp only[go_sem,simprocAttr,Qa,Cz,vv,Fa,Oz,ex,Cc]
   have hT1:=Qml y.sh zP.sh (Vf (y.ZM+x.len.toNat)) (B9 _)
   have CC:=TD y.cp zP.cp (Vf (y.ZM+x.len.toNat)) (B9 _)
   refine QA Qe hb 200 mixed [(0,true),(1,true),(2,true),(3,true),(4,true),(5,true),(6,true),(7,true),(8,true),(9,false),(10,true),(11,true),(12,false)] (by kernel_rfl) (by kernel_rfl) ?_
   simp only[go_sem,simprocAttr,Qa,jN,vv]
   refine Zt hb Qip rfl ?_ hT1 (Ql.flat rfl) rfl fun d h hR=>?_
   ·simp only[go_sem,simprocAttr,Qa,jN,vv]
   obtain⟨rfl,rfl⟩:=hR
   refine QF hb ?_
   simp only[go_sem,simprocAttr,Qa,jN,vv]
   refine QA Qe hb 200 mixed [(0,true),(1,true),(2,true),(3,true),(4,true),(5,true),(6,true),(7,true),(8,true),(9,false),(10,true),(11,true),(12,false)] (by kernel_rfl) (by kernel_rfl) ?_
   simp only[go_sem,simprocAttr,Qa,jN,vv]
   refine Zt hb Rx rfl ?_ CC (Ql.flat rfl) rfl fun d h hR=>?_
   ·simp only[go_sem,simprocAttr,Qa,jN,vv]
   obtain⟨rfl,rfl⟩:=hR
   refine QF hb ?_
   simp only[go_sem,simprocAttr,Qa,jN,vv]
   have C6:=C5.qF hy (wN x.len.toNat) (fun _=>rfl) (fun _=>rfl) (uv zP _)
   have D6:=QZ.set (own:=zR) (h:=H5) (Wb (qD L.lq y) (wN x.len.toNat y)) (l:=L.le j) (by rw[yp];simp)
   refine⟨Qn,_,Qk.frame (by simp only[go_sem,simprocAttr,Q3]),Ia.of (by rw[Zj];exact C6) (D5.trans D6) Ox (by rw[Qt nb];exact wJ) Oy (by rw[Qt nx];exact Fa)⟩
  have ZE:k=U.length:=by omega
  have dk:=decide_eq_false Qn
  rw[ZE,List.take_length]at C5 I5 kT kA
  obtain⟨M5,E5⟩:∃M5,M5=U.foldl (Ki x.len.toNat) M3:=⟨_,rfl⟩
  obtain⟨n5,Fb,uB,QoR,_⟩:=ux x.len.toNat U M3 id QoO
  rw[← E5]at C5 I5 kT kA Fb
  have uC:n5.c.leaf=true:=by rw[uB,uA];exact hl
  have Oo:=C5.look Fb
  have wL:=C5.ob
  have E6:=Qd wL
  have Cz:=(C5.Zz id n5 Fb).1
  have vv:=Qd Cz
  refine Qc hb ?_
  simp only[go_sem,simprocAttr,Qa,dk]
  refine Qc hb ?_
  simp only[go_sem,simprocAttr,Qa,Fa,Oz]
  refine QT hb Qiq rfl ?_ (Qos C5 I5 Fb uC x.len (by have:=KS.1;omega) (by have:=KS.2;omega) r) rfl fun d H6 hR=>?_
  ·simp only[go_sem,simprocAttr]
  obtain⟨uD,C6,D6⟩:=hR
  have I6:=I5.Vn Fb x.len r
  obtain⟨uE,uF,_⟩:=Ov M5 id x.len r
  obtain⟨n6,If,uG,QoS⟩:=QoI M5 id x.len r id Fb
  obtain⟨M6,uH⟩:∃M6,M6=Vn M5 id x.len r:=⟨_,rfl⟩
  rw[← uH]at C6 I6 uE uF If
  have zI:H6[h.length]? = some YC:=(D6.keep _ Oq Ox).trans wJ
  have OB:uD h.length=.no:=(D6.same _ Oq).trans Ox
  have AB:H6[h2.length]? = some (WL x):=(D6.keep _ Oz Oy).trans Fa
  have UO:uD h2.length=.no:=(D6.same _ Oz).trans Oy
  have OC:=Qd zI
  have Ey:=Qd AB
  have uJ:=D5.trans D6
  have k9:n6.c.leaf=true:=by rw[uG];exact uC
  have hq6:n6.q=Vg n.q:=by rw[QoS,QoR,QoP]
  have uK:n6.c=n.c:=by rw[uG,uB,uA]
  have Yw:=C6.ob
  have WG:=Qd Yw
  have jN:=(C6.Zz id n6 If).1
  have UP:=Qd jN
  have QoU:qD L.lq n6=.ptr (L.lq id) 0 0 0:=by unfold qD;rw[if_pos k9,uK,EU]
  rw[QoU]at jN
  obtain⟨kq6,Qvs,hQ6⟩:=C6.KL id n6 If k9
  have UQ:n6.q.l.length=q.length:=by rw[hq6];unfold Vg;rw[E9];rfl
  have KB:Qr M6.T id=some n6.c:=I6.some If
  have vJ:XB (Zn M now) id r=JT (if (Vg n.q).l=[] then Xf M6 id else M6) (up (Zn M now).T id):=by
   unfold XB
   simp only[Ic,E9,List.headD_cons]
   rw[show up (Zn M now).T id=U by rw[t2];exact hU.symm,← Xg,← E5,← uH]
  have UR:M6.T=M.T:=by rw[uE,kT,uz]
  have hA6:M6.A=M.A:=by rw[uF,kA,QoN]
  refine Qc hb ?_
  simp only[go_sem,simprocAttr,Qa,Yw,WG,jN,UP]
  refine QK hb Ag rfl ?_ (Cb hQ6.toR) rfl fun d hR=>?_
  ·simp only[go_sem,simprocAttr,Qa,Yw,WG,jN,UP,UQ]
  subst hR
  refine Qc hb ?_
  simp only[go_sem,simprocAttr,Qa,Yw,WG,jN,UP,UQ]
  have Nz:∀jO H8,Q7 jO H8 p L (XB (Zn M now) id r)→Qy (XB (Zn M now) id r)→QZ own h jO H8→H8[h.length]? = some YC→jO h.length=.no →
    ∃own' M',Q7 own' (H8.set h.length ⟨.one,0,8,1,fun _=>vw id x r⟩) p L M'∧Qy M'∧QZ own h own' (H8.set h.length ⟨.one,0,8,1,fun _=>vw id x r⟩)∧Ib M now (.tup [.agg (vw id x r),QN true]) M':=fun jO H8 C8 I8 D8 AQ Ig=>
   ⟨jO,_,C8.loc Ig _,I8,D8.Us (Nat.le_refl _) _,by
    have:=QoL id r jO H8 hp C8 I8 D8
    rwa [Zy,E9,List.headD_cons]at this⟩
  have hqz:(Vg n.q).l=q:=by unfold Vg;rw[E9];rfl
  rw[hqz]at vJ
  cases OD:q with
  | cons z q2=>
   have dz:(((q2.length+1:Nat):Int)==0)=false:=VG (by omega)
   rw[OD,if_neg (by simp)]at vJ
   have ZJ:=Uw C6 I6 id
   rw[UR,← t2,← vJ]at ZJ
   simp only[go_sem,simprocAttr,Qa,OD,dz]
   refine QT hb Ry rfl ?_ ZJ rfl fun d H8 hR=>?_
   ·simp only[go_sem,simprocAttr]
   obtain⟨jO,C8,I8,D8⟩:=hR
   have AQ:H8[h.length]? = some YC:=(D8.keep _ OC OB).trans zI
   have Ih:H8[h2.length]? = some (WL x):=(D8.keep _ Ey UO).trans AB
   have Ig:jO h.length=.no:=(D8.same _ OC).trans OB
   have Ii:=Qd AQ
   have US:=Qd Ih
   have UT:∀o,(H8.set h.length o)[h.length]? = some o:=fun o=>Qw Ii
   refine Qc hb ?_
   simp only[go_sem,simprocAttr,Qa,AQ,Ii,Ih,US,UT]
   exact Nz jO H8 C8 I8 (uJ.trans D8) AQ Ig
  | nil=>
   rw[OD,if_pos rfl]at vJ
   simp only[go_sem,simprocAttr,Qa,OD]
   refine QT hb Qir rfl ?_ (Qoz C6 I6 If k9 (by rw[uK,hA6];exact V3) (QoH I6.tree KB k9 _)) rfl fun d H7 hR=>?_
   ·simp only[go_sem,simprocAttr]
   obtain⟨Xh,C7,I7,D7⟩:=hR
   have uL:H7[h.length]? = some YC:=(D7.keep _ OC OB).trans zI
   have uM:H7[h2.length]? = some (WL x):=(D7.keep _ Ey UO).trans AB
   have uN:Xh h.length=.no:=(D7.same _ OC).trans OB
   have QoY:Xh h2.length=.no:=(D7.same _ Ey).trans UO
   have uO:=Qd uL
   have QoZ:=Qd uM
   have ZJ:=Uw C7 I7 id
   have hT7:(Xf M6 id).T=M.T:=by
    unfold Xf
    split
    ·rw[(EZ _ _).1];exact UR
    ·exact UR
   rw[hT7,← t2,← vJ]at ZJ
   refine Qc hb ?_
   simp only[go_sem,simprocAttr,Qa]
   refine QT hb Ry rfl ?_ ZJ rfl fun d H8 hR=>?_
   ·simp only[go_sem,simprocAttr]
   obtain⟨jO,C8,I8,D8⟩:=hR
   have AQ:H8[h.length]? = some YC:=(D8.keep _ uO uN).trans uL
   have Ih:H8[h2.length]? = some (WL x):=(D8.keep _ QoZ QoY).trans uM
   have Ig:jO h.length=.no:=(D8.same _ uO).trans uN
   have Ii:=Qd AQ
   have US:=Qd Ih
   have UT:∀o,(H8.set h.length o)[h.length]? = some o:=fun o=>Qw Ii
   refine Qc hb ?_
   simp only[go_sem,simprocAttr,Qa,AQ,Ii,Ih,US,UT]
   exact Nz jO H8 C8 I8 ((uJ.trans D7).trans D8) AQ Ig
structure vz (c:Cf):Prop where
 t1:1≤c.t
 t2:c.t≤65536
 l1:1≤c.K9
 l2:c.K9≤16384
def JA (M:Qh) (id:Int) (x:Pk):Qh:={ M with N:=J1 M.N id fun m=>{ m with q:=Kh (Qx M id).c.Q9 (Qx M id).c.bytes (Qx M id).q x } }
def WN (M:Qh) (a:Nat):Qh:={ M with acc:=a }
def JO (M:Qh) (cls:Int) (x:Pk):Int:=
 match Qg M.N cls with
 | none=>23
 | some n=>if n.c.leaf=false then 29 else if x.len<1∨M.lk.K9<x.len then 26 else if 1099511627776<M.acc+x.len.toNat then 28
  else if Xb n.c.Q9 n.c.bytes n.q x=true then 30 else 0
def Kj (M:Qh) (now:Nat) (cls:Int) (x:Pk):Qh:=
 if JO M cls x=30 then JA M cls x
 else if JO M cls x=0 then (if (Qx M cls).q.l=[] then qf (WN (JA M cls x) (M.acc+x.len.toNat)) now cls x.len else WN (JA M cls x) (M.acc+x.len.toNat))
 else M
theorem Qy.JA {M:Qh} (I:Qy M) (id:Int) (x:Pk):Qy (JA M id x):=I.J1 id (fun m=>{ m with q:=Kh (Qx M id).c.Q9 (Qx M id).c.bytes (Qx M id).q x }) fun _=>rfl
theorem Qy.WN {M:Qh} (I:Qy M) {a:Nat} (h:a≤1099511627776):Qy (WN M a):=⟨I.tree,I.wK,I.to,I.nodes,I.VD,I.ks,I.jH,I.Yy,I.Yz,I.Zd,h⟩
theorem uP (M:Qh) (now:Nat):(Zn M now).lk=M.lk∧(Zn M now).acc=M.acc:=by unfold Zn;split<;>exact⟨rfl,rfl⟩
def qi (M:Qh) (now:Nat) (cls:Int) (x:Pk):Int:=if qd M now=true then JO (Zn M now) cls x else 27
def VS (M:Qh) (now:Nat) (cls:Int) (x:Pk):Qh:=if qd M now=true then Kj (Zn M now) now cls x else M
theorem Qo1 {own:Nat→Tag} {h:List Ob} {p:Nat} {L:Loc} {M:Qh} (C:Q7 own h p L M) (I:Qy M) (K:vz M.lk) (now:Nat) (Vo:now<18446744073709551616) (cls:Int) (x:Pk)
  (hA:∀n,Qg M.N cls=some n→n.c.leaf=true→n.q.l=[]→cls ∉ M.A) :
  QH prog 16 h [.ptr p 0 0 0,u64 now,Qb cls,.agg x.cells] (fun d h'=>∃own' M',Q7 own' h' p L M'∧Qy M'∧QZ own h own' h' ∧
   d=Qb (qi M now cls x)∧M'=VS M now cls x):=by
 have ho:=C.ob
 have C0:=C.VP [WL x]
 have D0:=QZ.app own h [WL x] .no
 have zK:Za own h .no h.length=.no:=by unfold Za;rw[if_pos (Nat.le_refl _)]
 have Zf:(h++[WL x])[h.length]? = some (WL x):=by rw[Kc rfl];rfl
 refine QX Qe 200 func16 rfl ntmps16 results16 rfl fun base w pl hb=>?_
 have Qf:=Qd ho
 simp only[go_sem,simprocAttr,Qa,ho,Qf]
 refine QT hb nY rfl ?_ (tZ C0 now) rfl fun d h1 hR=>?_
 ·simp only[go_sem,simprocAttr]
 obtain⟨rfl,C1,D1⟩:=hR
 have I1:=yr I now
 obtain⟨t1,t2,t3⟩:=E8 M now
 obtain⟨t4,t5⟩:=uP M now
 have zS:=D0.trans D1
 have Jg:h1[h.length]? = some (WL x):=(D1.keep h.length (by simp) zK).trans Zf
 have X3:=Qd Jg
 obtain⟨JL,CA⟩:∃o,o=Za own h .no:=⟨_,rfl⟩
 rw[← CA]at zS C1 zK
 have Zp:=C1.ob
 have KM:=Qd Zp
 have Xm:=C1.JK
 have Ow:=Qd Xm
 refine Qc hb ?_
 cases ht:qd M now with
 | false=>
  have hM:Zn M now=M:=by unfold Zn;rw[ht];rfl
  rw[hM]at C1
  simp only[go_sem,simprocAttr,Qa,ht]
  exact⟨JL,M,C1,I,zS,by rw[show qi M now cls x=27 from if_neg (by rw[ht];exact Bool.false_ne_true)],(if_neg (by rw[ht];exact Bool.false_ne_true)).symm⟩
 | true=>
  have zz:∀own' H M',Q7 own' H p L M'→Qy M'→QZ own h own' H→M'=Kj (Zn M now) now cls x→∀e,JO (Zn M now) cls x=e→∃own' M',Q7 own' H p L M'∧Qy M'∧QZ own h own' H∧Qb e=Qb (qi M now cls x)∧M'=VS M now cls x:=
   fun own' H M' h1 h2 h3 h4 e he=>⟨own',M',h1,h2,h3,by rw[← he];unfold qi;rw[if_pos ht],by unfold VS;rw[if_pos ht];exact h4⟩
  obtain⟨M1,tc⟩:∃M1,M1=Zn M now:=⟨_,rfl⟩
  rw[← tc]at C1 I1 t1 t2 t3 t4 t5 zz Zp
  cases hf:Qg M1.N cls with
  | none=>
   have hk:=C1.Wr.at_ cls
   rw[hf,Option.map_none]at hk
   have hE:JO M1 cls x=23:=by unfold JO;rw[hf]
   have hP:Kj M1 now cls x=M1:=by unfold Kj;rw[hE];rfl
   simp only[go_sem,simprocAttr,Qa,ht,Zp,KM,Xm,Ow,hk]
   exact zz JL h1 M1 C1 I1 zS hP.symm 23 hE
  | some n=>
   have hk:=C1.look hf
   have vr:=(C1.Zz cls n hf).1
   have EY:=Qd vr
   have EU:=Qy.id hf
   simp only[go_sem,simprocAttr,Qa,ht,Zp,KM,Xm,Ow,hk,vr,EY]
   cases hl:n.c.leaf with
   | false=>
    have hE:JO M1 cls x=29:=by unfold JO;rw[hf];simp [hl]
    have hP:Kj M1 now cls x=M1:=by unfold Kj;rw[hE];rfl
    simp only[go_sem,simprocAttr,Qa]
    exact zz JL h1 M1 C1 I1 zS hP.symm 29 hE
   | true=>
    have Qvt:=Jg
    have Xl:∀o,(h1.set h.length o)[h.length]? = some o:=fun o=>Qw X3
    obtain⟨kq,Ct,hQ⟩:=C1.KL cls n hf hl
    have yn:qD L.lq n=.ptr (L.lq cls) 0 0 0:=by unfold qD;rw[if_pos hl,EU]
    rw[yn]at vr
    have Zy:Qx M1 cls=n:=by unfold Qx;rw[hf];rfl
    have K1:vz M1.lk:=by rw[t4];exact K
    have Zk:=K1.l1
    have Jf:=K1.l2
    have Qo2:=I1.acc
    have fE:(x.len<1∨M1.lk.K9<x.len)→JO M1 cls x=26:=fun h=>by unfold JO;rw[hf];simp only[hl];rw[if_neg (by simp),if_pos h]
    have fP:(x.len<1∨M1.lk.K9<x.len)→Kj M1 now cls x=M1:=fun h=>by unfold Kj;rw[fE h];rfl
    cases d1:decide (x.len<1) with
    | true=>
     have:=of_decide_eq_true d1
     simp only[go_sem,simprocAttr,Qa]
     refine QA Qe hb 200 mixed [(0,true),(1,true),(2,true),(3,true),(4,true),(5,true),(6,true),(7,true),(8,true),(9,true),(10,true),(11,true),(12,true),(13,true)] (by kernel_rfl) (by kernel_rfl) ?_
     simp only[go_sem,simprocAttr,Qa,Jg,X3,Zp,KM,d1]
     exact zz JL h1 M1 C1 I1 zS (fP (.inl this)).symm 26 (fE (.inl this))
    | false=>
     have x1:1≤x.len:=by have:=of_decide_eq_false d1;omega
     cases d2:decide (M1.lk.K9<x.len) with
     | true=>
      have:=of_decide_eq_true d2
      simp only[go_sem,simprocAttr,Qa]
      refine QA Qe hb 200 mixed [(0,true),(1,true),(2,true),(3,true),(4,true),(5,true),(6,true),(7,true),(8,true),(9,true),(10,true),(11,true),(12,true),(13,true)] (by kernel_rfl) (by kernel_rfl) ?_
      simp only[go_sem,simprocAttr,Qa,Jg,X3,Zp,KM,d1,d2]
      exact zz JL h1 M1 C1 I1 zS (fP (.inr this)).symm 26 (fE (.inr this))
     | false=>
      have x2:x.len≤M1.lk.K9:=by have:=of_decide_eq_false d2;omega
      have hx:ED x:=⟨x1,by omega⟩
      have R8:(x.len.toNat:Int)=x.len:=Int.toNat_of_nonneg (by omega)
      obtain⟨a,ha⟩:∃a,a=x.len.toNat:=⟨_,rfl⟩
      rw[← ha]at R8
      have ex:IntKind.u64.wrap x.len=(a:Int):=by rw[ha];exact Ca (by omega) (by omega)
      have ew:IntKind.u64.wrap ((M1.acc:Int)+(a:Int))=((M1.acc+a:Nat):Int):=by rw[Ca (by omega) (by omega)];omega
      have ge:¬ (x.len<1∨M1.lk.K9<x.len):=by omega
      cases d3:decide ((1099511627776:Int)<((M1.acc+a:Nat):Int)) with
      | true=>
       have d3':=of_decide_eq_true d3
       have hE:JO M1 cls x=28:=by unfold JO;rw[hf];simp only[hl];rw[if_neg (by simp),if_neg ge,if_pos (by rw[← ha];omega)]
       have hP:Kj M1 now cls x=M1:=by unfold Kj;rw[hE];rfl
       simp only[go_sem,simprocAttr,Qa]
       refine QA Qe hb 200 mixed [(0,true),(1,true),(2,true),(3,true),(4,true),(5,true),(6,true),(7,true),(8,true),(9,true),(10,true),(11,true),(12,true),(13,true)] (by kernel_rfl) (by kernel_rfl) ?_
       simp only[go_sem,simprocAttr,Qa,Jg,X3,Zp,KM,d1,d2]
       refine QA Qe hb 200 mixed [(0,true),(1,true),(2,true),(3,true),(4,true),(5,true),(6,true),(7,true),(8,true),(9,true)] (by kernel_rfl) (by kernel_rfl) ?_
       simp only[go_sem,simprocAttr,Qa,Jg,X3,Zp,KM,ex,ew,d3]
       exact zz JL h1 M1 C1 I1 zS hP.symm 28 hE
      | false=>
       have d3':=of_decide_eq_false d3
       simp only[go_sem,simprocAttr,Qa]
       refine QA Qe hb 200 mixed [(0,true),(1,true),(2,true),(3,true),(4,true),(5,true),(6,true),(7,true),(8,true),(9,true),(10,true),(11,true),(12,true),(13,true)] (by kernel_rfl) (by kernel_rfl) ?_
       simp only[go_sem,simprocAttr,Qa,Jg,X3,Zp,KM,d1,d2]
       refine QA Qe hb 200 mixed [(0,true),(1,true),(2,true),(3,true),(4,true),(5,true),(6,true),(7,true),(8,true),(9,true)] (by kernel_rfl) (by kernel_rfl) ?_
       simp only[go_sem,simprocAttr,Qa,Jg,X3,Zp,KM,ex,ew,d3]
       refine Wj [5] Qe hb 200 mixed [(0,true),(1,true),(2,true),(3,true),(4,true),(5,false),(6,true)] [] (by kernel_rfl) (by kernel_rfl) ?_
       simp only[go_sem,simprocAttr,Qa,Jg,X3,vr,EY]
       refine WD hb Qiu rfl ?_ (Qmb hQ x hx) rfl fun d h2 hR=>?_
       ·simp only[go_sem,simprocAttr]
       obtain⟨rfl,Q2,s2⟩:=hR
       have Va:Za JL h1 (.WJ cls) h.length=.no:=by rw[qc X3];exact zK
       have ZZ:h2[h.length]? = some (WL x):=(s2.keep h.length X3 (by rw[zK];simp)).trans Jg
       have Qo4:=Qd ZZ
       have C2:=C1.WJ hf hl Ct Q2 s2
       have D2:=zS.trans (QZ.of (t:=.WJ cls) (by simp) s2)
       have UL:{ M1 with N:=J1 M1.N cls fun m=>{ m with q:=Kh kq n.c.bytes n.q x } }=JA M1 cls x:=by unfold JA;rw[Zy,Ct]
       rw[UL]at C2
       have I2:=I1.JA cls x
       have WB:∀b,Xb kq n.c.bytes n.q x=b→JO M1 cls x=if b=true then 30 else 0:=fun b hb=>by
        unfold JO;rw[hf];simp only[hl];rw[if_neg (by simp),if_neg ge,if_neg (by rw[← ha];omega),Ct,hb]
       generalize Za JL h1 (.WJ cls)=Kr at C2 D2 Va
       refine QF hb ?_
       cases UU:Xb kq n.c.bytes n.q x with
       | true=>
        have hE:JO M1 cls x=30:=WB _ UU
        have hP:Kj M1 now cls x=JA M1 cls x:=by unfold Kj;rw[hE];rfl
        simp only[go_sem,simprocAttr,Qa]
        exact zz Kr h2 _ C2 I2 D2 hP.symm 30 hE
       | false=>
        have hE:JO M1 cls x=0:=WB _ UU
        have KO:=C2.ob
        have qg:=Qd KO
        have Qo5:(JA M1 cls x).acc=M1.acc:=rfl
        have Qo6:(JA M1 cls x).lk=M1.lk:=rfl
        have Qo7:(JA M1 cls x).Zd=M1.Zd:=rfl
        have C3:Q7 Kr (h2.set p (X2 M1.lk L.t L.b L.o L.v L.m M1.Zd (M1.acc+a))) p L (WN (JA M1 cls x) (M1.acc+a)):=C2.Zd M1.Zd (M1.acc+a)
        have I3:Qy (WN (JA M1 cls x) (M1.acc+a)):=I2.WN (by omega)
        have D3:=D2.trans (QZ.set (own:=Kr) (h:=h2) (l:=p) (X2 M1.lk L.t L.b L.o L.v L.m M1.Zd (M1.acc+a)) (by rw[C2.op];decide))
        have hnp:p≠h.length:=fun e=>by have:=C2.op;rw[e,Va]at this;cases this
        have YB:(h2.set p (X2 M1.lk L.t L.b L.o L.v L.m M1.Zd (M1.acc+a)))[h.length]? = some (WL x):=(Qt hnp).trans ZZ
        have AP:=Qd YB
        generalize UM:h2.set p (X2 M1.lk L.t L.b L.o L.v L.m M1.Zd (M1.acc+a))=H3 at C3 D3 YB AP
        have UN:h2.set p ⟨.one,0,9,1,fun _=>[.raw (.int .i64 M1.lk.t),.raw (.int .i64 M1.lk.K9),.ptr L.t 0 0 0,.mref L.b 0,.ptr L.o 0 0 0,.ptr L.v 0 0 0,.mref L.m 0,.raw (.int .u64 (M1.Zd:Nat)),.raw (.int .u64 ((M1.acc+a:Nat):Int))]⟩=H3:=UM
        have Au:Qg (WN (JA M1 cls x) (M1.acc+a)).N cls=some { n with q:=Kh kq n.c.bytes n.q x }:=by
         show Qg (JA M1 cls x).N cls=_
         unfold JA
         dsimp only
         rw[Zy,Ct,Wu (f:=fun m:Nd=>{ m with q:=Kh kq n.c.bytes n.q x }) (fun _=>rfl) cls,if_pos rfl,hf,Option.map_some]
        have qY:=(C3.Zz cls _ Au).1
        have Qo9:qD L.lq { n with q:=Kh kq n.c.bytes n.q x }=.ptr (L.lq cls) 0 0 0:=by unfold qD;rw[if_pos hl,EU]
        rw[Qo9]at qY
        have qh:=Qd qY
        obtain⟨kq3,Qvv,hQ3⟩:=C3.KL cls _ Au hl
        simp only[go_sem,simprocAttr,Qa]
        refine QA Qe hb 200 mixed [(0,true),(1,true),(2,true),(3,true),(4,true),(5,true),(6,true),(7,true),(8,true),(9,true),(10,false)] (by kernel_rfl) (by kernel_rfl) ?_
        simp only[go_sem,simprocAttr,Qa,ZZ,Qo4,KO,qg,ex,ew,Qo5,Qo6,Qo7,UN,qY,qh]
        have Q4:(Kh kq n.c.bytes n.q x).l.length=n.q.l.length+1:=by unfold Kh;rw[if_neg (by rw[UU];exact Bool.false_ne_true)];simp
        have UQ:({ n with q:=Kh kq n.c.bytes n.q x }:Nd).q.l.length=n.q.l.length+1:=Q4
        have VQ:=C3.ob
        have YA:=Qd VQ
        refine QK hb Ag rfl ?_ (Cb hQ3.toR) rfl fun d hR=>?_
        ·simp only[go_sem,simprocAttr,Qa,YB,AP,VQ,YA,qY,qh,Q4]
        subst hR
        refine Qc hb ?_
        simp only[go_sem,simprocAttr,Qa,YB,AP,VQ,YA,qY,qh,Q4]
        cases hq:n.q.l with
        | cons y q=>
         have dz:(((q.length+1+1:Nat):Int)==1)=false:=VG (by omega)
         have hP:Kj M1 now cls x=WN (JA M1 cls x) (M1.acc+a):=by unfold Kj;rw[hE,Zy,hq,← ha];rfl
         simp only[go_sem,simprocAttr,Qa,List.length_cons,dz]
         exact zz Kr H3 _ C3 I3 D3 hP.symm 0 hE
        | nil=>
         have dz:(((0+1:Nat):Int)==1)=true:=rfl
         have Z9:ZG (WN (JA M1 cls x) (M1.acc+a)) cls=false:=by
          rw[Bool.eq_false_iff]
          intro h9
          have h8:=(Ou I1.tree (I1.some hf) hl M1.A).1 h9
          rw[t3]at h8
          exact hA n (by rw[← t1];exact hf) hl hq h8
         have hP:Kj M1 now cls x=qf (WN (JA M1 cls x) (M1.acc+a)) now cls x.len:=by unfold Kj;rw[hE,Zy,hq,← ha];rfl
         simp only[go_sem,simprocAttr,Qa,List.length_nil,dz]
         simp only[go_sem,simprocAttr,Qa,YB,AP]
         refine QT hb Qiv rfl ?_ (Qov C3 I3 Au hl now Vo x.len (by omega) Z9) rfl fun d h4 hR=>?_
         ·simp only[go_sem,simprocAttr]
         obtain⟨q4,C4,I4,D4⟩:=hR
         refine Qc hb ?_
         simp only[go_sem,simprocAttr,Qa]
         exact zz q4 h4 _ C4 I4 (D3.trans D4) hP.symm 0 hE
@[go_sem] def jP (c:Cf):Ob:=⟨.one,0,2,1,fun _=>c.cells⟩
def M0 (c:Cf):Qh:=⟨c,[],[],[],[],[],fun id=>decide (id=0),fun _=>[],0,0⟩
def OE (own:Nat→Tag) (b:Nat) (l:Nat):Tag:=
 if l<b then own l else if l<b+2 then .tree else if l<b+5 then .lv else if l<b+8 then .VB 0 else if l=b+8 then .mk else if l=b+9 then .Ur else if l=b+10 then .sc else .on
theorem Qpb (h:List Ob):J8 prog 44 h [] (fun d g=>d=.ptr (h.length+1) 0 0 0∧g=[QG .i64 0 [],⟨.one,0,1,1,fun _=>[.mref h.length 0]⟩]):=
 QH.mono (QlX (h.map Ob.ro)) fun d h' ⟨h1,h2⟩=>⟨_,h2,by rw[h1,List.length_map],by rw[List.length_map]⟩
def qk (b:Nat):List Ob:=[qN .nil,QG .i64 0 [],xY b (b+1)]
theorem Qpc (h:List Ob):J8 prog 45 h [] (fun d g=>d=.ptr (h.length+2) 0 0 0∧g=qk h.length):=by
 have:QH prog 45 (h.map Ob.ro) [] (fun d h'=>d=.ptr ((h.map Ob.ro).length+2) 0 0 0∧h'=h.map Ob.ro++qk (h.map Ob.ro).length):=by
  generalize h.map Ob.ro=h
  refine QX Qe 200 func45 rfl ntmps45 results45 rfl fun base w pl hb=>?_
  simp only[go_sem,simprocAttr,Qa]
  refine QT hb ot rfl ?_ (rH h) rfl fun d h hR=>?_
  ·simp only[go_sem,simprocAttr,Qa]
  obtain⟨rfl,rfl⟩:=hR
  refine Qc hb ?_
  simp only[go_sem,simprocAttr,Qa]
  rfl
 exact QH.mono this fun d h' ⟨h1,h2⟩=>⟨_,h2,by rw[h1,List.length_map],by rw[List.length_map]⟩
theorem uQ (h:List Ob):J8 prog 46 h [] (fun d g=>d=.ptr (h.length+2) 0 0 0∧g=qk h.length):=by
 have:QH prog 46 (h.map Ob.ro) [] (fun d h'=>d=.ptr ((h.map Ob.ro).length+2) 0 0 0∧h'=h.map Ob.ro++qk (h.map Ob.ro).length):=by
  generalize h.map Ob.ro=h
  refine QX Qe 200 func46 rfl ntmps46 results46 rfl fun base w pl hb=>?_
  simp only[go_sem,simprocAttr,Qa]
  refine QT hb ot rfl ?_ (rH h) rfl fun d h hR=>?_
  ·simp only[go_sem,simprocAttr,Qa]
  obtain⟨rfl,rfl⟩:=hR
  refine Qc hb ?_
  simp only[go_sem,simprocAttr,Qa]
  rfl
 exact QH.mono this fun d h' ⟨h1,h2⟩=>⟨_,h2,by rw[h1,List.length_map],by rw[List.length_map]⟩
theorem UW {H:List Ob} {S:Nat→Prop} {b:Nat} (h0:H[b]? = some (qN .nil)) (h1:H[b+1]? = some (QG .i64 0 [])) (h2:H[b+2]? = some (xY b (b+1))) (s0:S b) (s1:S (b+1)) (s2:S (b+2)):KA S H (b+2) []:=
 ⟨b,b+1,.nil,0,[],h2,⟨h0,trivial,rfl,by simp [Tr.QB],by simp [Tr.QB],by simp [JG]⟩,h1,VK.nil,by simp,by omega,by omega,by omega,by simp [Tr.QB],by simp [Tr.QB],s2,s0,s1,by simp [Tr.QB]⟩
theorem uR:JD []:=⟨TreeInv.nil,by simp,by simp,by simp,by simp⟩
theorem Qpd (c:Cf):Qy (M0 c):=
 ⟨uR,fun c hc=>by simp [M0]at hc,rfl,rfl,fun a ha=>by simp [M0]at ha,fun id=>by simp [M0,Qg],fun x hx=>by simp [M0]at hx,fun id x hx=>by simp [M0]at hx,fun id x hx=>by simp [M0]at hx,by simp [M0],by simp [M0]⟩
theorem Qpe {own:Nat→Tag} {h:List Ob} (c:Cf) :
  QH prog 15 h [.agg c.cells] (fun d h'=>(vz c∧∃own' L p,d=.tup [.ptr p 0 0 0,Qb 0]∧Q7 own' h' p L (M0 c)∧Qy (M0 c)∧QZ own h own' h')∨(¬ vz c∧d=.tup [.raw (.pointer none),Qb 1]∧∃g,h'=h++g)):=by
 have Zf:∀g,(h++jP c::g)[h.length]? = some (jP c):=fun g=>Kc rfl
 by_cases K:vz c
 ·have d1:decide (c.t<1)=false:=decide_eq_false (by have:=K.t1;omega)
  have d2:decide (65536<c.t)=false:=decide_eq_false (by have:=K.t2;omega)
  have d3:decide (c.K9<1)=false:=decide_eq_false (by have:=K.l1;omega)
  have d4:decide (16384<c.K9)=false:=decide_eq_false (by have:=K.l2;omega)
  refine QX Qe 200 func15 rfl ntmps15 results15 rfl fun base w pl hb=>?_
  simp only[go_sem,simprocAttr,Qa,Qa,d1,d2,d3,d4]
  refine QA Qe hb 200 mixed [(0,true),(1,false),(3,false),(5,false),(4,false),(6,false),(7,true),(2,false),(8,true),(9,false),(10,true)] (by kernel_rfl) (by kernel_rfl) ?_
  simp only[go_sem,simprocAttr,Qa]
  refine Gx hb Qis rfl ?_ (Qpb _) rfl fun d h hR=>?_
  ·simp only[go_sem,simprocAttr,Qa]
  obtain⟨rfl,rfl⟩:=hR
  refine QF hb ?_
  simp only[go_sem,simprocAttr,Qa]
  refine Gx hb Qit rfl ?_ (Qpc _) rfl fun d h hR=>?_
  ·simp only[go_sem,simprocAttr,Qa,qk]
  obtain⟨rfl,rfl⟩:=hR
  refine QF hb ?_
  simp only[go_sem,simprocAttr,Qa,qk]
  refine Gx hb nZ rfl ?_ (uQ _) rfl fun d h hR=>?_
  ·simp only[go_sem,simprocAttr,Qa,qk]
  obtain⟨rfl,rfl⟩:=hR
  refine QF hb ?_
  simp only[go_sem,simprocAttr,Qa,qk]
  refine QmC vX hb rfl rfl rfl rfl (KW (k:=9) rfl) ?_
  refine QF hb ?_
  simp only[go_sem,simprocAttr,Qa]
  obtain⟨cm,em,Uq,KH⟩:=Jz.nil.set .i64 0 0 (.ptr (h.length+6+2) 0 0 0)
  obtain⟨G,hG⟩:∃G:List Ob,G=[jP c,QG .i64 0 [],⟨.one,0,1,1,fun _=>[.mref (h.length+1) 0]⟩,qN .nil,QG .i64 0 [],xY (h.length+3) (h.length+3+1),qN .nil,QG .i64 0 [],xY (h.length+6) (h.length+6+1),Ka .i64 0 [] 0 (.ptr (h.length+6+2) 0 0 0),QG .i64 0 [],⟨.one,0,9,1,fun _=>[Qb c.t,Qb c.K9,.ptr (h.length+1+1) 0 0 0,.mref (h.length+10) 0,.raw (.pointer none),.ptr (h.length+3+2) 0 0 0,.mref (h.length+9) 0,u64 0,u64 0]⟩]:=⟨_,rfl⟩
  have EN:G.length=12:=by rw[hG];rfl
  have gk:∀k o,G[k]? = some o→(h++G)[h.length+k]? = some o:=fun k o e=>by rw[List.getElem?_append_right (by omega),Nat.add_sub_cancel_left];exact e
  have ht:=gk 2 _ (by rw[hG];rfl)
  have hm:=gk 1 _ (by rw[hG];rfl)
  have hs:=gk 11 _ (by rw[hG];rfl)
  have Qpf:=Qd hs
  have R:Kz (h++G) (h.length+2) []:=Ke.toR (S:=fun _=>True) ⟨h.length+1,0,[],ht,hm,JQ.nil,trivial,trivial⟩
  have ha:=rB R uR
  rw[hG]at ha
  refine QT hb n4 rfl ?_ ha rfl fun d h' hR=>?_
  ·simp only[go_sem,simprocAttr,Qa]
  rw[← hG]at hR
  obtain⟨rfl,hO,g,rfl⟩:=hR
  refine Qc hb ?_
  have Ji:((h++G)++g)[h.length+11]? = _:=(QU Qpf).trans hs
  have uS:=Qd Ji
  have hGL:(h++G).length=h.length+12:=by rw[List.length_append,EN]
  simp only[go_sem,simprocAttr,Ji,uS]
  obtain⟨Qpg,NH⟩:∃o,o=Za own h .no:=⟨_,rfl⟩
  obtain⟨JL,UX⟩:∃o,o=OE Qpg (h.length+1):=⟨_,rfl⟩
  have tg:∀k,k<12→JL (h.length+k)=if k<1 then .no else if k<3 then .tree else if k<6 then .lv else if k<9 then .VB 0 else if k=9 then .mk else if k=10 then .Ur else .sc:=fun k hk=>by
   rw[UX];unfold OE
   by_cases k1:k<1
   ·rw[if_pos (by omega),if_pos k1,NH];unfold Za;rw[if_pos (by omega)]
   ·rw[if_neg (by omega),if_neg k1]
    by_cases k2:k<3
    ·rw[if_pos (by omega),if_pos k2]
    ·rw[if_neg (by omega),if_neg k2]
     by_cases k3:k<6
     ·rw[if_pos (by omega),if_pos k3]
     ·rw[if_neg (by omega),if_neg k3]
      by_cases k4:k<9
      ·rw[if_pos (by omega),if_pos k4]
      ·rw[if_neg (by omega),if_neg k4]
       by_cases k5:k=9
       ·rw[if_pos (by omega),if_pos k5]
       ·rw[if_neg (by omega),if_neg k5]
        by_cases k6:k=10
        ·rw[if_pos (by omega),if_pos k6]
        ·rw[if_neg (by omega),if_neg k6,if_pos (by omega)]
  have tgo:∀l,h.length+12≤l→JL l=.on:=fun l hl=>by
   rw[UX];unfold OE
   rw[if_neg (by omega),if_neg (by omega),if_neg (by omega),if_neg (by omega),if_neg (by omega),if_neg (by omega),if_neg (by omega)]
  have tgn:∀l,l<h.length→JL l=own l:=fun l hl=>by
   rw[UX];unfold OE
   rw[if_pos (by omega),NH];exact qc hl
  generalize hS:(⟨.one,0,9,1,_⟩:Ob)=S0
  have wO:∀k o,k<11→G[k]? = some o→((h++G++g).set (h.length+11) S0)[h.length+k]? = some o:=fun k o hk e=>(Qt (by omega)).trans ((QU (by omega)).trans (gk k o e))
  have g1:=wO 1 _ (by omega) (by rw[hG];rfl)
  have g2:=wO 2 _ (by omega) (by rw[hG];rfl)
  have g3:=wO 3 _ (by omega) (by rw[hG];rfl)
  have g4:=wO 4 _ (by omega) (by rw[hG];rfl)
  have g5:=wO 5 _ (by omega) (by rw[hG];rfl)
  have g6:=wO 6 _ (by omega) (by rw[hG];rfl)
  have g7:=wO 7 _ (by omega) (by rw[hG];rfl)
  have g8:=wO 8 _ (by omega) (by rw[hG];rfl)
  have g9:=wO 9 _ (by omega) (by rw[hG];rfl)
  have g10:=wO 10 _ (by omega) (by rw[hG];rfl)
  have g11:((h++G++g).set (h.length+11) S0)[h.length+11]? = some S0:=Qw uS
  rw[Uq]at g9
  have UY:∀id n,Qg (M0 c).N id=some n→False:=by intro id n hn;cases hn
  refine .inl ⟨K,JL,⟨h.length+2,h.length+10,(h++G).length+3,h.length+5,h.length+9,0,cm,[],em,fun _=>0,fun _=>0,fun _=>h.length+8⟩,h.length+11,rfl,⟨?_,(tg 11 (by omega)).trans rfl,⟨h.length+1,0,[],g2,g1,JQ.nil,(tg 2 (by omega)).trans rfl,(tg 1 (by omega)).trans rfl⟩,g10,Jz.nil.to fun k=>rfl,(tg 10 (by omega)).trans rfl,fun id n hn=>(UY id n hn).elim,fun id n hn=>(UY id n hn).elim,?_,UW (S:=fun l=>JL l=.lv) g3 g4 g5 ((tg 3 (by omega)).trans rfl) ((tg 4 (by omega)).trans rfl) ((tg 5 (by omega)).trans rfl),g9,KH.to fun k=>?_,(tg 9 (by omega)).trans rfl,fun id QQ=>?_,fun id n hn=>(UY id n hn).elim⟩,Qpd c,⟨tgn,?_,?_⟩⟩
  ·rw[g11,← hS];rfl
  ·exact hO.step fun l hl ho=>⟨tgo l (by omega),Qt (by omega)⟩
  ·by_cases hk:k=0
   ·subst hk;rfl
   ·show (if k=0 then _ else _)=if decide (k=0)=true then _ else _
    rw[if_neg hk,if_neg (by simpa using hk)]
  ·have:id=0:=by simpa [M0] using QQ
   subst this
   exact UW (S:=fun l=>JL l=.VB 0) g6 g7 g8 ((tg 6 (by omega)).trans rfl) ((tg 7 (by omega)).trans rfl) ((tg 8 (by omega)).trans rfl)
  ·intro l hl Z9
   exact(Qt (by omega)).trans ((QU (by omega)).trans (QU hl))
  ·simp only[List.length_set,List.length_append];omega
 ·have fin:∀d,d=D.tup [.raw (.pointer none),Qb 1]→∃g,h++[jP c]=h++g:=fun _ _=>⟨_,rfl⟩
  cases d1:decide (c.t<1) with
  | true=>
   refine QX Qe 200 func15 rfl ntmps15 results15 rfl fun base w pl hb=>?_
   simp only[go_sem,simprocAttr,Qa,Qa,d1]
   exact .inr ⟨K,_,rfl⟩
  | false=>
   cases d2:decide (65536<c.t) with
   | true=>
    refine QX Qe 200 func15 rfl ntmps15 results15 rfl fun base w pl hb=>?_
    simp only[go_sem,simprocAttr,Qa,Qa,d1,d2]
    exact .inr ⟨K,_,rfl⟩
   | false=>
    cases d3:decide (c.K9<1) with
    | true=>
     refine QX Qe 200 func15 rfl ntmps15 results15 rfl fun base w pl hb=>?_
     simp only[go_sem,simprocAttr,Qa,Qa,d1,d2,d3]
     exact .inr ⟨K,_,rfl⟩
    | false=>
     have d4:decide (16384<c.K9)=true:=by
      have e1:=of_decide_eq_false d1
      have e2:=of_decide_eq_false d2
      have e3:=of_decide_eq_false d3
      refine decide_eq_true (Classical.byContradiction fun e4=>K ⟨by omega,by omega,by omega,by omega⟩)
     refine QX Qe 200 func15 rfl ntmps15 results15 rfl fun base w pl hb=>?_
     simp only[go_sem,simprocAttr,Qa,Qa,d1,d2,d3,d4]
     exact .inr ⟨K,_,rfl⟩
theorem OF {l:List Int} {k:Nat} (h:k<l.length):l.getD k 0∈l:=by
 rw[List.getD_eq_getElem?_getD,List.getElem?_eq_getElem h];exact List.getElem_mem h
def UZ (l:List Int) (F:List Ob) (f nf:Nat) (QC:List D) (g:Int→Bool):Prop:=∀(h:List Ob) (n:Int),n∈l→JR F h→QP prog f h (Z8 nf QC [Qb n]) (fun d=>d=QN (g n))
def Ij (l:List Int) (F:List Ob) (lo:Nat) (f nf:Nat) (QC:List D) (g:Int→Bool):Prop:=∀(h:List Ob) (n:Int),n∈l→F.length≤h.length→(∀l,l<F.length→l≠lo→h[l]? = F[l]?)→QP prog f h (Z8 nf QC [Qb n]) (fun d=>d=QN (g n))
section
variable (h:List Ob) (l:List Int) (lo gn off:Nat) (row:Nat→List D) (hlen:l.length<1000000) (ho:(h.map Ob.ro)[lo]? = some ⟨.yA,gn,1,off+l.length,row⟩) (hr:∀i,i<l.length→row (off+i)=[Qb (l.getD i 0)])
include hlen ho hr
theorem Qpj (so:D) (f nf:Nat) (QC:List D) (hf:Qp prog f) (JY:Kb so=some (f,nf,QC)) (gk:Int→Bool) (hg:UZ l (h.map Ob.ro) f nf QC gk) :
  QP prog 134 h [.ref lo gn off l.length,so] (fun d=>d=Qb (qG gk l)):=by
 refine Zi Qe 200 func134 rfl ntmps134 results134 rfl fun base w pl F hF QS hb=>?_
 rw[← hF]at ho
 have Qf:=Qd ho
 simp only[go_sem,simprocAttr,Qa,ho,Qf]
 refine Zv (fun k s=>(∀i,i<k→gk (l.getD i 0)=false)∧s=⟨[(0,.ref lo gn off l.length),(1,so),(7,Qb l.length),(8,Qb k)],F⟩) l.length (Qk.frame (by simp only[go_sem,simprocAttr])) ⟨fun i hi=>absurd hi (by omega),rfl⟩ ?_
 rintro k s hk ⟨hn,rfl⟩
 refine Qc hb ?_
 simp only[go_sem,simprocAttr,Qa]
 have Qf:=Qd ho
 have Q3:=JX (show k<4611686018427387904 by omega)
 first|refine vT hk (fun Qn=>?_) (fun Qn=>?_)|refine vU hk (fun Qn=>?_) (fun Qn=>?_)
 ·have Sj:=hr k Qn
  have jr:off+k<off+l.length:=by omega
  simp only[go_sem,simprocAttr,Qa,ho,Qf,Qn,Sj,jr]
  refine QK hb hf JY ?_ (hg F (l.getD k 0) (OF Qn) (by rw[← hF];exact JR.refl F)) rfl fun d2 hR=>?_
  ·simp only[go_sem,simprocAttr]
   exact wc _
  subst hR
  refine Qc hb ?_
  cases XP:gk (l.getD k 0)
  ·simp only[go_sem,simprocAttr,Qa]
   refine⟨Qn,_,Qk.frame (by simp only[go_sem,simprocAttr,Q3]),fun i hi=>?_,rfl⟩
   by_cases h1:i<k
   ·exact hn i h1
   ·have:i=k:=by omega
    subst this;exact XP
  ·rw[Sg Qn hn XP]
   simp only[go_sem,simprocAttr,Qa]
   exact⟨[],(List.append_nil F).symm⟩
 ·have Qn:k=l.length:=by omega
  subst Qn
  simp only[go_sem,simprocAttr,Nat.lt_irrefl]
  rw[Si hn]
  refine Qc hb ?_
  simp only[go_sem,simprocAttr,Qa]
  exact⟨[],(List.append_nil F).symm⟩
end
section
variable (h:List Ob) (l:List Int) (lo gn off:Nat) (row:Nat→List D) (hlen:l.length<1000000) (ho:h[lo]? = some ⟨.arr,gn,1,off+l.length,row⟩) (hr:∀i,i<l.length→row (off+i)=[Qb (l.getD i 0)])
include hlen ho hr
theorem Qpk (so:D) (f nf:Nat) (QC:List D) (hf:Qp prog f) (JY:Kb so=some (f,nf,QC)) (gk:Int→Bool) (hg:Ij l h lo f nf QC gk) (Il:Ij l (h.map Ob.ro) lo f nf QC gk) :
  QH prog 138 h [.ref lo gn off l.length,so] (fun d h'=>d=.ref lo gn off (qb gk l).length∧∃K3,h'=h.set lo ⟨.arr,gn,1,off+l.length,K3⟩∧∀i,i<(qb gk l).length→K3 (off+i)=[Qb ((qb gk l).getD i 0)]):=by
 refine QX Qe 200 func138 rfl ntmps138 results138 rfl fun base w pl hb=>?_
 have Qf:=Qd ho
 simp only[go_sem,simprocAttr,Qa,ho,Qf]
 refine QK hb GB rfl ?_ (Qpj h l lo gn off row hlen (ZA ho) hr so f nf QC hf JY gk (fun h' n hm hx=>?_)) rfl fun d2 hR=>?_
 ·simp only[go_sem,simprocAttr]
  exact xM so
 ·obtain⟨g,rfl⟩:=hx
  exact Il _ n hm (by simp) fun l hl _=>QU hl
 subst hR
 have Xl:h.set lo ⟨.arr,gn,1,off+l.length,row⟩=h:=List.ext_getElem? fun i=>by
  by_cases h1:lo=i
  ·subst h1;rw[List.getElem?_set_self Qf,ho]
  ·rw[List.getElem?_set_ne h1]
 rcases QnS (g:=gk) (l:=l) with ⟨h1,h2⟩|⟨i,hi,h1,h2,h3⟩
 ·rw[h1,h2]
  refine Qc hb ?_
  simp only[go_sem,simprocAttr,Qa,ho,Qf]
  exact⟨row,Xl.symm,hr⟩
 ·rw[h1]
  have QD:(((i:Nat):Int)==-1)=false:=by simp
  have Q3:=JX (show i<4611686018427387904 by omega)
  refine Qc hb ?_
  simp only[go_sem,simprocAttr,Qa,ho,Qf,QD,Q3]
  refine Zv (fun k s=>∃r2:Nat→List D,(∀x,x<l.length→(r2 (off+x)).length=1)∧(∀j,j<((l.take (i+1+k)).filter fun x=>!gk x).length→r2 (off+j)=[Qb (((l.take (i+1+k)).filter fun x=>!gk x).getD j 0)])∧(∀j,i+1+k≤j→j<l.length→r2 (off+j)=[Qb (l.getD j 0)]) ∧
   s=⟨[(0,.ref lo gn off l.length),(1,so),(5,Qb ((l.take (i+1+k)).filter fun x=>!gk x).length),(6,Qb (i+1+k:Nat))],h.set lo ⟨.arr,gn,1,off+l.length,r2⟩⟩) (l.length - (i+1))
   (s0:=⟨[(0,.ref lo gn off l.length),(1,so),(5,Qb i),(6,Qb (i+1:Nat))],h⟩) (Qk.frame (by simp only[go_sem,simprocAttr])) ⟨row,fun x hx=>by rw[hr x hx];rfl,?_,fun j _ hj=>hr j hj,?_⟩ ?_
  ·rw[Nat.add_zero,h3]
   intro j hj
   simp at hj
   rw[hr j (by omega)]
   simp [List.getD_eq_getElem?_getD,hj,show j<l.length by omega]
  ·rw[Nat.add_zero,h3,Xl]
   simp [Nat.min_eq_left (Nat.le_of_lt hi)]
  rintro k s hk ⟨r2,qt,V1,Cq,rfl⟩
  have Ot:=QnR l (fun x=>!gk x) (i+1+k)
  obtain⟨M,hM⟩:∃M,M=(l.take (i+1+k)).filter fun x=>!gk x:=⟨_,rfl⟩
  obtain⟨j,hj⟩:∃j,j=i+1+k:=⟨_,rfl⟩
  have Zk:lo<(h.set lo ⟨.arr,gn,1,off+l.length,r2⟩).length:=by simpa using Qf
  have Wf:(h.set lo ⟨.arr,gn,1,off+l.length,r2⟩)[lo]? = some ⟨.arr,gn,1,off+l.length,r2⟩:=Qw Qf
  rw[← hj]at hM V1 Cq Ot ⊢
  rw[← hM]at V1 Ot ⊢
  have wP:j≤l.length:=by omega
  have Q3:=JX (show j<4611686018427387904 by omega)
  have Qpl:=JX (show M.length<4611686018427387904 by omega)
  have Qpm:∀x,x<h.length→x≠lo→(h.set lo ⟨.arr,gn,1,off+l.length,r2⟩)[x]? = h[x]? := fun x _ hx=>Qt (Ne.symm hx)
  refine Qc hb ?_
  simp only[go_sem,simprocAttr,Qa,Wf,Zk]
  first|refine vT wP (fun Qn=>?_) (fun Qn=>?_)|refine vU wP (fun Qn=>?_) (fun Qn=>?_)
  ·have HW:=Cq j (Nat.le_refl _) Qn
   have Jg:off+j<off+l.length:=by omega
   simp only[go_sem,simprocAttr,Qa,Qn,Wf,Zk,HW,Jg]
   refine QK hb hf JY ?_ (hg _ (l.getD j 0) (OF Qn) (by simp) Qpm) rfl fun d2 hR=>?_
   ·simp only[go_sem,simprocAttr]
    exact wc _
   subst hR
   have ZJ:=tH l (fun x=>!gk x) j Qn
   rw[← hM,show l.getD j default=l.getD j 0 from rfl]at ZJ
   cases XP:gk (l.getD j 0)
   ·rw[if_pos (by simp only[XP,Bool.not_false])]at ZJ
    have ZZ:M.length<l.length:=by omega
    have YB:off+M.length<off+l.length:=by omega
    have Qpn:List.drop 1 (r2 (off+M.length))=[]:=List.drop_eq_nil_of_le (by rw[qt _ ZZ];exact Nat.le_refl _)
    refine Qc hb ?_
    simp only[go_sem,simprocAttr,Qa,Wf,Zk,Q3,Qpl,ZZ,YB,Qpn,qt M.length ZZ]
    have ej:i+1+(k+1)=j+1:=by omega
    have wJ:(M++[l.getD j 0]).length=M.length+1:=by simp
    refine⟨by omega,_,Qk.frame (fr':=[(0,.ref lo gn off l.length),(1,so),(5,Qb (M.length+1:Nat)),(6,Qb (j+1:Nat))]) (by simp only[go_sem,simprocAttr]),fun x=>bif x==off+M.length then [Qb (l.getD j 0)] else r2 x,?_,?_,?_,?_⟩
    ·intro x hx
     show (bif off+x==off+M.length then [Qb (l.getD j 0)] else r2 (off+x)).length=1
     cases (off+x==off+M.length)
     ·exact qt x hx
     ·rfl
    ·rw[ej,ZJ]
     intro x hx
     simp at hx
     by_cases yq:x=M.length
     ·subst yq;simp only[beq_self_eq_true,cond_true];simp;rfl
     ·have e1:(off+x==off+M.length)=false:=by simp;omega
      have:=V1 x (by omega)
      simp only[e1,cond_false,this]
      rw[List.getD_eq_getElem?_getD,List.getD_eq_getElem?_getD,List.getElem?_append_left (by omega)];rfl
    ·intro x yP KS
     have e1:(off+x==off+M.length)=false:=by simp;omega
     simp only[e1,cond_false]
     exact Cq x (by omega) KS
    ·rw[ej,ZJ,wJ];rfl
   ·rw[if_neg (by simp only[XP,Bool.not_true];decide)]at ZJ
    refine Qc hb ?_
    simp only[go_sem,simprocAttr,Qa,Wf,Zk,Q3]
    refine⟨by omega,_,Qk.frame (fr':=[(0,.ref lo gn off l.length),(1,so),(5,Qb M.length),(6,Qb (j+1:Nat))]) (by simp only[go_sem,simprocAttr]),r2,qt,?_,?_,?_⟩
    ·rw[show i+1+(k+1)=j+1 by omega,ZJ];exact V1
    ·intro x yP KS;exact Cq x (by omega) KS
    ·rw[show i+1+(k+1)=j+1 by omega,ZJ];rfl
  ·subst Qn
   rw[List.take_length]at hM
   have Xi:M=qb gk l:=hM
   rw[← Xi]
   have Jg:M.length≤l.length:=by omega
   refine Qc hb ?_
   simp only[go_sem,simprocAttr,Qa,Wf,Zk,Jg]
   refine Sx vX hb rfl Wf rfl rfl rfl rfl (by simp;omega) rfl rfl rfl rfl ?_
   have hgS:∀r:Ob,(h.set lo r)[lo]? = some r:=fun r=>Qw Qf
   refine Qc hb ?_
   simp only[go_sem,simprocAttr,Qa,hgS,Qf,Jg]
   refine⟨by simp,_,rfl,fun x hx=>by rw[Sv (by omega)];exact V1 x hx⟩
theorem Qpp (so:D) (f nf:Nat) (QC:List D) (hf:Qp prog f) (JY:Kb so=some (f,nf,QC)) (gk:Int→Bool) (hg:Ij l h lo f nf QC gk) (Il:Ij l (h.map Ob.ro) lo f nf QC gk) :
  QH prog 138 h [.ref lo gn off l.length,so] (fun d h'=>d=.ref lo gn off (qb gk l).length∧∃K3,h'=h.set lo ⟨.arr,gn,1,off+(qb gk l).length,K3⟩∧∀i,i<(qb gk l).length→K3 (off+i)=[Qb ((qb gk l).getD i 0)]):=by
 refine QH.cut (Qpk h l lo gn off row hlen ho hr so f nf QC hf JY gk hg Il) ?_
 rintro d h' ⟨rfl,K3,rfl,HL⟩
 have:=List.length_filter_le (fun x=>!gk x) l
 refine⟨lo,⟨.arr,gn,1,off+l.length,K3⟩,off+(qb gk l).length,Qw (Qd ho),rfl,by simp only[qb];omega,rfl,K3,by rw[List.set_set],HL⟩
end
section
variable (h:List Ob) (l:List Int) (hlen:l.length<1000000)
include hlen
theorem Qpq (so:D) (f nf:Nat) (QC:List D) (hf:Qp prog f) (JY:Kb so=some (f,nf,QC)) (gk:Int→Bool) (hg:UZ l (h.map Ob.ro) f nf QC gk) :
  QP prog 134 h [ints l,so] (fun d=>d=Qb (qG gk l)):=by
 refine Zi Qe 200 func134 rfl ntmps134 results134 rfl fun base w pl F hF QS hb=>?_
 simp only[go_sem,simprocAttr,Qa]
 refine Zv (fun k s=>(∀i,i<k→gk (l.getD i 0)=false)∧s=⟨[(0,ints l),(1,so),(7,Qb l.length),(8,Qb k)],F⟩) l.length (Qk.frame (by simp only[go_sem,simprocAttr])) ⟨fun i hi=>absurd hi (by omega),rfl⟩ ?_
 rintro k s hk ⟨hn,rfl⟩
 refine Qc hb ?_
 simp only[go_sem,simprocAttr,Qa]
 have Q3:=JX (show k<4611686018427387904 by omega)
 first|refine vT hk (fun Qn=>?_) (fun Qn=>?_)|refine vU hk (fun Qn=>?_) (fun Qn=>?_)
 ·simp only[go_sem,simprocAttr,Qa,Qn]
  refine QK hb hf JY ?_ (hg F (l.getD k 0) (OF Qn) (by rw[← hF];exact JR.refl F)) rfl fun d2 hR=>?_
  ·simp only[go_sem,simprocAttr]
   exact wc _
  subst hR
  refine Qc hb ?_
  cases XP:gk (l.getD k 0)
  ·simp only[go_sem,simprocAttr,Qa]
   refine⟨Qn,_,Qk.frame (by simp only[go_sem,simprocAttr,Q3]),fun i hi=>?_,rfl⟩
   by_cases h1:i<k
   ·exact hn i h1
   ·have:i=k:=by omega
    subst this;exact XP
  ·rw[Sg Qn hn XP]
   simp only[go_sem,simprocAttr,Qa]
   exact⟨[],(List.append_nil F).symm⟩
 ·have Qn:k=l.length:=by omega
  subst Qn
  simp only[go_sem,simprocAttr,Nat.lt_irrefl]
  rw[Si hn]
  refine Qc hb ?_
  simp only[go_sem,simprocAttr,Qa]
  exact⟨[],(List.append_nil F).symm⟩
theorem U0 (so:D) (f nf:Nat) (QC:List D) (hf:Qp prog f) (JY:Kb so=some (f,nf,QC)) (gk:Int→Bool) (hg:UZ l (h.map Ob.ro) f nf QC gk) :
  QP prog 52 h [ints l,so] (fun d=>d=QN (decide (0≤qG gk l))):=by
 refine Zi Qe 200 func52 rfl ntmps52 results52 rfl fun base w pl F hF QS hb=>?_
 simp only[go_sem,simprocAttr,Qa]
 refine QK hb GB rfl ?_ (Qpq F l hlen so f nf QC hf JY gk (fun h' n hm hx=>?_)) rfl fun d2 hR=>?_
 ·simp only[go_sem,simprocAttr]
  exact xM so
 ·rw[hF,Sf]at hx
  exact hg h' n hm hx
 subst hR
 refine Qc hb ?_
 simp only[go_sem,simprocAttr,Qa]
 exact⟨[],(List.append_nil F).symm⟩
end
structure Ww (h:List Ob) (p:Nat) (L:Loc) (M:Qh):Prop where
 ob:(h.map Ob.ro)[p]? = some (X2 M.lk L.t L.b L.o L.v L.m M.Zd M.acc).ro
 tr:Kz h L.t M.T
 JK:(h.map Ob.ro)[L.b]? = some (QG .i64 L.cb L.eb).ro
 Wr:Jz L.eb (fun id=>(Qg M.N id).map fun _=>.ptr (L.le id) 0 0 0)
 Zz:∀id n,Qg M.N id=some n→(h.map Ob.ro)[L.le id]? = some (Wb (qD L.lq n) n).ro
 KL:∀id n,Qg M.N id=some n→n.c.leaf=true→∃k:Nat,n.c.Q9=k∧AI h (L.lq id) k n.c.bytes n.q
 Ws:Av h L.o M.To M.A
 VC:xZ h L.v M.Lv
 J5:(h.map Ob.ro)[L.m]? = some (QG .i64 L.cm L.em).ro
 Vm:Jz L.em (fun id=>if M.ks id=true then some (.ptr (L.lk id) 0 0 0) else none)
 kids:∀id,M.ks id=true→xZ h (L.lk id) (M.KT id)
theorem Q7.ro {own:Nat→Tag} {h:List Ob} {p:Nat} {L:Loc} {M:Qh} (C:Q7 own h p L M):Ww h p L M:=
 ⟨ZA C.ob,C.tr.toR,ZA C.JK,C.Wr,fun id n hn=>ZA (C.Zz id n hn).1,fun id n hn hl=>by
  obtain⟨k,h1,h2⟩:=C.KL id n hn hl
  exact⟨k,h1,h2.toR⟩,C.Ws.toR,C.VC.toR,ZA C.J5,C.Vm,fun id hk=>(C.kids id hk).toR⟩
theorem Ww.more {h h':List Ob} {p:Nat} {L:Loc} {M:Qh} (e:∀(l:Nat) (o:Ob),(h.map Ob.ro)[l]? = some o→(h'.map Ob.ro)[l]? = some o) (C:Ww h p L M):Ww h' p L M:=
 ⟨e _ _ C.ob,C.tr.more e,e _ _ C.JK,C.Wr,fun id n hn=>e _ _ (C.Zz id n hn),fun id n hn hl=>by
  obtain⟨k,h1,h2⟩:=C.KL id n hn hl
  exact⟨k,h1,h2.more e⟩,C.Ws.more e,C.VC.more e,e _ _ C.J5,C.Vm,fun id hk=>(C.kids id hk).more e⟩
theorem Ww.look {h:List Ob} {p:Nat} {L:Loc} {M:Qh} (C:Ww h p L M) {id:Int} {n:Nd} (hn:Qg M.N id=some n):JJ L.eb id=some (.ptr (L.le id) 0 0 0):=by
 rw[C.Wr.at_,hn];rfl
theorem Qpr {h:List Ob} {p bl:Nat} {L:Loc} {M:Qh} (C:Ww h p L M) {id:Int} {n:Nd} (hn:Qg M.N id=some n) (hl:n.c.leaf=true) (QQ:n.c.iD=id) (Zf:(h.map Ob.ro)[bl]? = some ⟨.KF,0,1,1,fun _=>[.ptr p 0 0 0]⟩) :
  QP prog 140 h [Qb id,.ptr bl 0 0 0] (fun d=>d=QN (n.q.l.isEmpty)):=by
 have ho:=C.ob
 have hy:=C.JK
 have he:=C.Zz id n hn
 have VN:=C.look hn
 obtain⟨k,hk,hQ⟩:=C.KL id n hn hl
 have yn:qD L.lq n=.ptr (L.lq id) 0 0 0:=by unfold qD;rw[if_pos hl,QQ]
 rw[yn]at he
 have e:((n.q.l.length:Int)==0)=(n.q.l.isEmpty):=by
  cases n.q.l with
  | nil=>rfl
  | cons x l=>simp;omega
 refine Zi Qe 200 func140 rfl ntmps140 results140 rfl fun base w pl F hF QS hb=>?_
 rw[← hF]at Zf ho hy he
 have qI:=Qd Zf
 have Qf:=Qd ho
 have KJ:=Qd hy
 have Zm:=Qd he
 simp only[go_sem,simprocAttr,Qa,Zf,qI,ho,Qf,hy,KJ,he,Zm,VN]
 refine QK hb Ag rfl ?_ (Cb (hQ.more (Jk hF))) rfl fun d hR=>?_
 ·simp only[go_sem,simprocAttr,Qa,e]
 subst hR
 refine Qc hb ?_
 simp only[go_sem,simprocAttr,Qa,e]
 exact⟨[],(List.append_nil F).symm⟩
theorem Qps (h:List Ob) (so:D):QP prog 138 h [.nil,so] (fun d=>d=.nil):=by
 refine Zi Qe 200 func138 rfl ntmps138 results138 rfl fun base w pl F hF QS hb=>?_
 simp only[go_sem,simprocAttr,Qa]
 refine QK hb GB rfl ?_ (pz F so) rfl fun d2 hR=>?_
 ·simp only[go_sem,simprocAttr]
  exact xM so
 subst hR
 refine Qc hb ?_
 simp only[go_sem,simprocAttr,Qa]
 exact⟨[],(List.append_nil F).symm⟩
def YD (T:List Qj):List Int:=(T.filter (·.leaf)).map (·.iD)
def yu (M:Qh) (id:Int):Bool:=(Qx M id).q.l.isEmpty
def J6 (M:Qh):List Int:=qb (yu M) (YD M.T)
theorem OG {M:Qh} (I:Qy M) {id:Int} (h:id∈YD M.T):∃n,Qg M.N id=some n∧n.c.leaf=true∧n.c.iD=id:=by
 obtain⟨c,hc,rfl⟩:=List.mem_map.1 h
 obtain⟨j6,qv⟩:=List.mem_filter.1 hc
 have hf:=(KY I.tree.rising).2 ⟨j6,rfl⟩
 rw[I.nodes,Ut]at hf
 cases hn:Qg M.N c.iD with
 | none=>rw[hn]at hf;cases hf
 | some n=>
  rw[hn,Option.map_some,Option.some.injEq]at hf
  exact⟨n,rfl,by rw[hf];exact qv,by rw[hf]⟩
section
variable {h:List Ob} {p:Nat} {L:Loc} {M:Qh} (C:Ww h p L M) (I:Qy M)
include C I
theorem Qpt:J8 prog 55 h [.ptr p 0 0 0] (fun d g=>Z4 h.length (h++g) d (J6 M)):=by
 have WY:(YD M.T).length<1000000:=by
  have:=List.length_filter_le (fun c:Qj=>c.leaf) M.T
  have h2:=I.tree.len
  simp only[YD,List.length_map];omega
 have ho:=C.ob
 refine Yk Qe 200 func55 rfl ntmps55 results55 rfl fun base w pl F hF QS hb=>?_
 rw[← hF]at ho
 have Qf:=Qd ho
 simp only[go_sem,simprocAttr,Qa,ho,Qf]
 obtain⟨B,hB⟩:∃B:List Ob,B=[⟨.one,0,1,1,fun _=>[.ptr p 0 0 0]⟩]:=⟨_,rfl⟩
 have uT:B.length=1:=by rw[hB];rfl
 have Zf:B[0]? = some ⟨.one,0,1,1,fun _=>[.ptr p 0 0 0]⟩:=by rw[hB];rfl
 have OH:=hB
 rw[← OH]
 have CF:Ww F p L M:=C.more (Jk hF)
 have CB:Ww (F++B) p L M:=CF.more wm
 obtain⟨m,c,es,ht,hm,hT⟩:=CB.tr
 refine Ad hb QiX rfl ?_ (Qk4 _ L.t m c hT (by have:=I.tree.len;omega) ht hm) rfl fun d g hs=>?_
 ·simp only[go_sem,simprocAttr]
 rw[show (M.T.filter (·.leaf)).map (·.iD)=YD M.T from rfl]at hs
 rcases hs with ⟨rfl,h3⟩|⟨lo,gn,off,row,rfl,Zr,VQ,hr⟩
 ·refine Qc hb ?_
  simp only[go_sem,simprocAttr,Qa]
  refine QK hb ov rfl ?_ (Qps _ (.clo 140 0 [.ptr F.length 0 0 0])) rfl fun d2 hR=>?_
  ·simp only[go_sem,simprocAttr,Qa]
  subst hR
  refine Qc hb ?_
  simp only[go_sem,simprocAttr,Qa]
  refine⟨_,rfl,.inl ⟨rfl,?_⟩⟩
  rw[J6,h3];rfl
 ·refine Qc hb ?_
  simp only[go_sem,simprocAttr,Qa]
  have zG:F.length+1≤lo:=by
   have h4:(F++B).length≤lo:=Zr.1
   rw[List.length_append,uT]at h4;exact h4
  obtain⟨H,hH⟩:∃H,H=F++(B++g):=⟨_,rfl⟩
  have hHF:∀x:Nat,x<F.length→H[x]? = F[x]? := fun x hx=>by rw[hH];exact QU hx
  have KO:H[lo]? = some ⟨.arr,gn,1,off+(YD M.T).length,row⟩:=by rw[hH,← List.append_assoc];exact VQ
  have hHb:F.length+1≤H.length:=by rw[hH];simp [uT]
  have Qpv:H[F.length]? = some ⟨.one,0,1,1,fun _=>[.ptr p 0 0 0]⟩:=by rw[hH,Kc rfl,QU (by omega)];exact Zf
  rw[← hH]
  have tell:∀H2:List Ob,(∀x:Nat,H[x]? = H2[x]?∨(H2[x]? = (H[x]?).map Ob.ro))→H2.length=H.length→Ij (YD M.T) H2 lo 140 0 [.ptr F.length 0 0 0] (yu M):=by
   intro H2 h2 Jf h' n Ve hle hag
   have key:∀(x:Nat) (o:Ob),x<F.length+1→(H.map Ob.ro)[x]? = some o→(h'.map Ob.ro)[x]? = some o:=fun x o hx e=>by
    have e1:=hag x (by omega) (by omega)
    rw[List.getElem?_map]at e ⊢
    rw[e1]
    rcases h2 x with e2|e2
    ·rw[← e2];exact e
    ·rw[e2,Option.map_map,← e]
     congr 1
     funext o
     exact ro_ro o
   obtain⟨nd,hn,hl,QQ⟩:=OG I Ve
   have Zy:Qx M n=nd:=by unfold Qx;rw[hn];rfl
   have:=Qpr (CF.more (h':=h') fun x o e=>key x o (by have:=Qd e;rw[List.length_map]at this;omega) (by rw[List.getElem?_map,hHF x (by have:=Qd e;rw[List.length_map]at this;omega),← List.getElem?_map];exact e)) hn hl QQ (key F.length ⟨.KF,0,1,1,fun _=>[.ptr p 0 0 0]⟩ (by omega) (by rw[List.getElem?_map,Qpv];rfl))
   unfold yu
   rw[Zy]
   exact this
  refine QT hb ov rfl ?_ (Qpp H (YD M.T) lo gn off row WY KO hr (.clo 140 0 [.ptr F.length 0 0 0]) 140 0 [.ptr F.length 0 0 0] QiY rfl (yu M) (tell H (fun x=>.inl rfl) rfl) (tell (H.map Ob.ro) (fun x=>.inr (by rw[List.getElem?_map])) (by simp))) rfl fun d h2 hR=>?_
  ·simp only[go_sem,simprocAttr,Qa]
  obtain⟨rfl,K3,rfl,HL⟩:=hR
  refine Qc hb ?_
  simp only[go_sem,simprocAttr,Qa]
  refine Z4.done QS ⟨(B++g).set (lo - F.length) ⟨.arr,gn,1,off+(qb (yu M) (YD M.T)).length,K3⟩,?_⟩ (.inr ⟨lo,gn,off,K3,rfl,?_,?_,HL⟩)
  ·rw[hH,List.set_append_right _ _ (by omega:F.length≤lo)]
  ·exact⟨by have:=Zr.1;omega,Zr.2⟩
  ·exact Qw (Qd KO)
theorem U1:QP prog 55 h [.ptr p 0 0 0] (fun d=>d=ints (J6 M)):=Z4.closed (Qpt C I)
end
def Im (l:List Int) (v:Int):Int:=if l.contains v then (l.idxOf v:Nat) else -1
theorem Qpx (l:List Int) (id:Int) (hl:l.length<2147483648):Q8 prog 192 [ints l,Qb id] (Ql (Qb (Im l id))):=by
 refine Zb 0 Qe 200 func192 rfl ntmps192 results192 rfl fun base w hb=>?_
 simp only[go_sem,simprocAttr]
 refine Zv (fun k s=>(l.take k).contains id=false∧s=⟨[(0,ints l),(1,Qb id),(6,ints l),(7,Qb l.length),(8,Qb k)],[]⟩) l.length (s0:=⟨[(0,ints l),(1,Qb id),(6,ints l),(7,Qb l.length),(8,Qb 0)],[]⟩) (Qk.frame (by simp only[go_sem,simprocAttr])) ⟨by simp,rfl⟩ ?_
 rintro k s hk ⟨Z9,rfl⟩
 refine Qc hb ?_
 simp only[go_sem,simprocAttr]
 refine kx (fun h=>?_) (fun h=>?_)
 ·have Qn:k<l.length:=by simpa using h
  have e1:=getD_take l 0 k Qn
  simp only[go_sem,simprocAttr,Qn]
  refine kx (fun h2=>?_) (fun h2=>?_)
  ·simp only[go_sem,simprocAttr]
   have h3:l=l.take k++id::l.drop (k+1):=by
    conv=>lhs;rw[← List.take_append_drop (k+1) l,e1]
    simp at h2;simp [h2]
   have:Im l id=k:=by
    have hc:l.contains id=true:=by rw[h3];simp
    have h4:¬ id∈l.take k:=by simpa using Z9
    rw[Im,hc];simp only[if_true]
    rw[h3,List.idxOf_append,if_neg h4];simp;omega
   rw[this]
  ·simp only[go_sem,simprocAttr]
   refine⟨by omega,_,Qk.frame (by simp only[go_sem,simprocAttr,JX (show k<4611686018427387904 by omega)]),?_,rfl⟩
   rw[e1];simp at Z9 h2 ⊢;exact⟨Z9,h2⟩
 ·have Qn:k=l.length:=by simp at h;omega
  simp only[go_sem,simprocAttr]
  refine Qc hb ?_
  simp only[go_sem,simprocAttr]
  subst Qn
  simp at Z9
  simp [Im,Z9]
theorem Qpy (l:List Int) (id:Int) (hl:l.length<2147483648):Q8 prog 136 [ints l,Qb id] (Ql (QN (l.contains id))):=by
 refine Zb 0 Qe 200 func136 rfl ntmps136 results136 rfl fun base w hb=>?_
 simp only[go_sem,simprocAttr]
 refine QE hb Qi7 rfl ?_ (Qpx l id hl) (Ql.flat rfl) rfl fun d h hR=>?_
 ·simp only[go_sem,simprocAttr]
 obtain⟨rfl,rfl⟩:=hR
 refine Qc hb ?_
 simp only[go_sem,simprocAttr]
 unfold Im
 cases l.contains id<;>simp
theorem Qpz {h:List Ob} {p b1 b2:Nat} {L:Loc} {M:Qh} (C:Ww h p L M) (I:Qy M) (id n:Int) (h1:(h.map Ob.ro)[b1]? = some ⟨.KF,0,1,1,fun _=>[.ptr p 0 0 0]⟩) (h2:(h.map Ob.ro)[b2]? = some ⟨.KF,0,1,1,fun _=>[Qb id]⟩) :
  QP prog 135 h [Qb n,.ptr b1 0 0 0,.ptr b2 0 0 0] (fun d=>d=QN ((up M.T n).contains id)):=by
 have ho:=C.ob
 refine Zi Qe 200 func135 rfl ntmps135 results135 rfl fun base w pl F hF QS hb=>?_
 rw[← hF]at ho h1 h2
 have Qf:=Qd ho
 have Qz:=Qd h1
 have Jn:=Qd h2
 simp only[go_sem,simprocAttr,Qa,ho,Qf,h1,Qz,h2,Jn]
 refine QA Qe hb 200 mixed [(0,true),(1,true),(2,true),(3,true),(4,true),(6,true),(5,false),(7,false),(8,true)] (by kernel_rfl) (by kernel_rfl) ?_
 simp only[go_sem,simprocAttr,Qa,ho,Qf,h1,Qz,h2,Jn]
 refine Z3 hb MJ rfl ?_ (SQ (C.tr.more (Jk hF)) I.tree.toTreeInv n) rfl fun d hR=>?_
 ·simp only[go_sem,simprocAttr,Qa,h1,Qz,h2,Jn]
 subst hR
 refine QF hb ?_
 simp only[go_sem,simprocAttr,Qa,h1,Qz,h2,Jn]
 have vI:(ZI M.T 16 n).length≤16:=kQ (L:=M.T) (n:=16) (id:=n)
 refine Zt hb QiV rfl ?_ (Qpy (ZI M.T 16 n) id (by omega)) (Ql.flat rfl) rfl fun d h hR=>?_
 ·simp only[go_sem,simprocAttr,Qa]
 obtain⟨rfl,rfl⟩:=hR
 refine QF hb ?_
 simp only[go_sem,simprocAttr,Qa]
 exact⟨[],(List.append_nil F).symm,rfl⟩
theorem QpA (g:Int→Bool) (l:List Int):(qb g l).length≤l.length:=List.length_filter_le _ _
def jQ (M:Qh) (id:Int):Bool:=(J6 M).any fun n=>(up M.T n).contains id
theorem uU {M:Qh} (I:Qy M):(J6 M).length≤64:=by
 have h1:=QpA (yu M) (YD M.T)
 have h2:=List.length_filter_le (fun c:Qj=>c.leaf) M.T
 have h3:=I.tree.len
 simp only[J6,YD,List.length_map]at h1 ⊢
 omega
theorem QpB {h:List Ob} {p:Nat} {L:Loc} {M:Qh} (C:Ww h p L M) (I:Qy M) (id:Int) :
  QP prog 53 h [.ptr p 0 0 0,Qb id] (fun d=>d=QN (jQ M id)):=by
 have WY:=uU I
 have ho:=C.ob
 refine Yk Qe 200 func53 rfl ntmps53 results53 rfl fun base w pl F hF QS hb=>?_
 rw[← hF]at ho
 have Qf:=Qd ho
 simp only[go_sem,simprocAttr,Qa,ho,Qf]
 have CF:Ww F p L M:=C.more (Jk hF)
 obtain⟨B,hB⟩:∃B:List Ob,B=[⟨.one,0,1,1,fun _=>[.ptr p 0 0 0]⟩,⟨.one,0,1,1,fun _=>[Qb id]⟩]:=⟨_,rfl⟩
 have Zf:B[0]? = some ⟨.one,0,1,1,fun _=>[.ptr p 0 0 0]⟩:=by rw[hB];rfl
 have Jg:B[1]? = some ⟨.one,0,1,1,fun _=>[Qb id]⟩:=by rw[hB];rfl
 have OH:=hB
 simp only[go_sem,simprocAttr]at OH
 rw[← OH]
 have CB:Ww (F++B) p L M:=CF.more wm
 refine QK hb RC rfl ?_ (U1 CB I) rfl fun d hR=>?_
 ·simp only[go_sem,simprocAttr,Qa]
 subst hR
 refine Qc hb ?_
 simp only[go_sem,simprocAttr,Qa]
 refine QK hb Gz rfl ?_ (U0 (F++B) (J6 M) (by omega) (.clo 135 0 [.ptr F.length 0 0 0,.ptr (F.length+1) 0 0 0]) 135 0 [.ptr F.length 0 0 0,.ptr (F.length+1) 0 0 0] QiU rfl (fun n=>(up M.T n).contains id) (fun h' n hm hx=>?_)) rfl fun d2 hR=>?_
 ·simp only[go_sem,simprocAttr,Qa]
 ·have key:∀(l:Nat) (o:Ob),((F++B).map Ob.ro)[l]? = some o→(h'.map Ob.ro)[l]? = some o:=fun l o e=>by
   obtain⟨g,rfl⟩:=hx
   have e2:=ZA ((QU (Qd e)).trans e:((F++B).map Ob.ro++g)[l]? = some o)
   rw[e2]
   rw[List.getElem?_map]at e
   obtain⟨o2,h2,rfl⟩:=Option.map_eq_some_iff.1 e
   rw[ro_ro]
  exact Qpz (CB.more key) I id n (key _ _ (by rw[List.getElem?_map,Kc rfl,Zf];rfl)) (key _ _ (by rw[List.getElem?_map,KW rfl,Jg];rfl))
 subst hR
 refine Qc hb ?_
 simp only[go_sem,simprocAttr,Qa]
 refine⟨B,rfl,?_⟩
 rw[GN];rfl
theorem QpC {h:List Ob} {t1 t2 b1 b2:Nat} {A B:List Qj} (RA:Kz h t1 A) (RB:Kz h t2 B) (id:Int) (h1:(h.map Ob.ro)[b1]? = some ⟨.KF,0,1,1,fun _=>[.ptr t1 0 0 0]⟩) (h2:(h.map Ob.ro)[b2]? = some ⟨.KF,0,1,1,fun _=>[.ptr t2 0 0 0]⟩) (hA:A.length<100000) (hB:B.length<100000) :
  QP prog 137 h [Qb id,.ptr b1 0 0 0,.ptr b2 0 0 0] (fun d=>d=QN (AM A id || AM B id)):=by
 obtain⟨x,hx⟩:∃x,x=(Qr A id).getD default:=⟨_,rfl⟩
 obtain⟨y,hy⟩:∃y,y=(Qr B id).getD default:=⟨_,rfl⟩
 have e1:AM A id=decide (1<QI x.rt):=by rw[hx];rfl
 have e2:AM B id=decide (1<QI y.rt):=by rw[hy];rfl
 rw[e1,e2]
 refine Zi Qe 200 func137 rfl ntmps137 results137 rfl fun base w pl F hF QS hb=>?_
 rw[← hF]at h1 h2
 have Qz:=Qd h1
 have Jn:=Qd h2
 simp only[go_sem,simprocAttr,Qa,h1,Qz,h2,Jn]
 have uV:=Ep (RA.more (Jk hF)) id
 have uW:=fun G:List Ob=>Ep ((RB.more (Jk hF)).more (wm (g:=G))) id
 rw[← hx]at uV
 simp only[← hy]at uW
 refine QK hb YQ rfl ?_ uV rfl fun d hR=>?_
 ·simp only[go_sem,simprocAttr,Qa,h1,Qz,h2,Jn]
 subst hR
 refine Qc hb ?_
 simp only[go_sem,simprocAttr,Qa,h1,Qz,h2,Jn]
 refine QK hb YQ rfl ?_ (uW _) rfl fun d hR=>?_
 ·simp only[go_sem,simprocAttr,Qa,h1,Qz,h2,Jn]
 subst hR
 refine Qc hb ?_
 simp only[go_sem,simprocAttr,Qa,h1,Qz,h2,Jn]
 cases dr:decide (1<QI x.rt) with
 | true=>
  refine QE hb vY rfl ?_ (xJ x) (Ql.flat rfl) rfl fun d h hR=>?_
  ·simp only[go_sem,simprocAttr,Qa,dr]
  obtain⟨rfl,rfl⟩:=hR
  refine Qc hb ?_
  simp only[go_sem,simprocAttr,Qa,dr]
  exact⟨_,rfl⟩
 | false=>
  refine QE hb vY rfl ?_ (xJ x) (Ql.flat rfl) rfl fun d h hR=>?_
  ·simp only[go_sem,simprocAttr,Qa,dr]
  obtain⟨rfl,rfl⟩:=hR
  refine Qc hb ?_
  simp only[go_sem,simprocAttr,Qa,dr]
  refine QE hb vY rfl ?_ (xJ y) (Ql.flat rfl) rfl fun d h hR=>?_
  ·simp only[go_sem,simprocAttr,Qa]
  obtain⟨rfl,rfl⟩:=hR
  refine Qc hb ?_
  simp only[go_sem,simprocAttr,Qa]
  exact⟨_,rfl⟩
theorem U2 {h:List Ob} {t1 t2:Nat} {A B:List Qj} (RA:Kz h t1 A) (RB:Kz h t2 B) (hA:A.length<100000) (hB:B.length<100000) (hT:(Je A B).length<1000000) :
  QP prog 54 h [.ptr t1 0 0 0,.ptr t2 0 0 0] (fun d=>d=QN (Oa A B)):=by
 refine Yk Qe 200 func54 rfl ntmps54 results54 rfl fun base w pl F hF QS hb=>?_
 simp only[go_sem,simprocAttr,Qa]
 obtain⟨G,hG⟩:∃G:List Ob,G=[⟨.one,0,1,1,fun _=>[.ptr t1 0 0 0]⟩,⟨.one,0,1,1,fun _=>[.ptr t2 0 0 0]⟩]:=⟨_,rfl⟩
 have Zf:G[0]? = some ⟨.one,0,1,1,fun _=>[.ptr t1 0 0 0]⟩:=by rw[hG];rfl
 have Jg:G[1]? = some ⟨.one,0,1,1,fun _=>[.ptr t2 0 0 0]⟩:=by rw[hG];rfl
 rw[← hG]
 have HJ:Kz (F++G) t1 A:=(RA.more (Jk hF)).more wm
 have HK:Kz (F++G) t2 B:=(RB.more (Jk hF)).more wm
 refine QK hb n8 rfl ?_ (tR HJ HK hA hB) rfl fun d hR=>?_
 ·simp only[go_sem,simprocAttr,Qa]
 subst hR
 refine Qc hb ?_
 simp only[go_sem,simprocAttr,Qa]
 refine QK hb Gz rfl ?_ (U0 (F++G) (Je A B) hT (.clo 137 0 [.ptr F.length 0 0 0,.ptr (F.length+1) 0 0 0]) 137 0 [.ptr F.length 0 0 0,.ptr (F.length+1) 0 0 0] QiW rfl (fun id=>AM A id || AM B id) (fun h' n hm hx=>?_)) rfl fun d2 hR=>?_
 ·simp only[go_sem,simprocAttr,Qa]
 ·have key:∀(l:Nat) (o:Ob),((F++G).map Ob.ro)[l]? = some o→(h'.map Ob.ro)[l]? = some o:=fun l o e=>by
   obtain⟨g,rfl⟩:=hx
   have e2:=ZA ((QU (Qd e)).trans e:((F++G).map Ob.ro++g)[l]? = some o)
   rw[e2]
   rw[List.getElem?_map]at e
   obtain⟨o2,h2,rfl⟩:=Option.map_eq_some_iff.1 e
   rw[ro_ro]
  exact QpC (HJ.more key) (HK.more key) n (key _ _ (by rw[List.getElem?_map,Kc rfl,Zf];rfl)) (key _ _ (by rw[List.getElem?_map,KW rfl,Jg];rfl)) hA hB
 subst hR
 refine Qc hb ?_
 simp only[go_sem,simprocAttr,Qa]
 refine⟨G,rfl,?_⟩
 rw[GN];rfl
def Wd (c:Qj):Nd:=⟨c,0,default,default,default,⟨[],0,0,0,0,0,0⟩⟩
def uX (h:List Ob) (c:Qj) (d:D) (h':List Ob):Prop:=
 d=.ptr (h.length+1) 0 0 0∧∃g lq,h'=h++g∧2≤g.length∧h'[h.length+1]? = some (Wb (if c.leaf=true then .ptr lq 0 0 0 else .raw (.pointer none)) (Wd c)) ∧
  (c.leaf=true→∃k:Nat,c.Q9=k∧Y6 (fun l=>h.length+2≤l) h' lq k c.bytes ⟨[],0,0,0,0,0,0⟩)
@[go_sem] theorem Qvy (d d2:D) (n:Nd):d2::List.drop 1 (Jr d n)=Jr d2 n:=rfl
theorem QpD (h:List Ob) (c:Qj) (hl:c.leaf=true→1≤c.Q9∧c.Q9≤64∧1≤c.bytes∧c.bytes≤1048576) :
  QH prog 57 h [Vw c] (fun d h'=>uX h c d h'):=by
 obtain⟨i0,p0,lf,r1,r2,r3,k0,b0⟩:=c
 cases lf with
 | false=>
  refine QX Qe 200 func57 rfl ntmps57 results57 rfl fun base w pl hb=>?_
  simp only[go_sem,simprocAttr,Qa,Qa]
  refine⟨rfl,_,0,rfl,by simp,?_,fun e=>by cases e⟩
  rw[KW (k:=1) rfl]
  show some (_:Ob)=some (Wb (.raw (.pointer none)) _)
  refine congrArg some ?_
  unfold Wb Jr Wd
  refine congrArg (Ob.mk .one 0 60 1) ?_
  funext _
  dsimp only
  simp only[Qj.cells,List.cons_append,List.nil_append]
  rfl
 | true=>
  obtain⟨l1,l2,l3,l4⟩:=hl rfl
  dsimp only at l1 l2 l3 l4
  obtain⟨k,rfl⟩:∃k:Nat,k0=k:=⟨k0.toNat,by omega⟩
  refine QX Qe 200 func57 rfl ntmps57 results57 rfl fun base w pl hb=>?_
  simp only[go_sem,simprocAttr,Qa,Qa]
  generalize hE1:(⟨.one,0,14,1,_⟩:Ob)=E1
  generalize hE2:(⟨.one,0,60,1,_⟩:Ob)=E2
  have hE:E2=Wb (.raw (.pointer none)) (Wd ⟨i0,p0,true,r1,r2,r3,(k:Int),b0⟩):=by
   rw[← hE2]
   unfold Wb Jr Wd
   refine congrArg (Ob.mk .one 0 60 1) ?_
   funext _
   dsimp only
   simp only[Qj.cells,List.cons_append,List.nil_append]
   rfl
  obtain⟨G,hG⟩:∃G:List Ob,G=[E1,E2]:=⟨_,rfl⟩
  have EN:G.length=2:=by rw[hG];rfl
  have hq:=Qma (h++G) k b0 (by omega) (by omega) l3 l4
  have g1:(h++G)[h.length+1]? = some (Wb (.raw (.pointer none)) (Wd ⟨i0,p0,true,r1,r2,r3,(k:Int),b0⟩)):=by rw[hG,← hE];exact KW (k:=1) rfl
  have qT:=hq
  rw[hG]at qT
  refine QT hb QiZ rfl ?_ qT rfl fun d h2 hR=>?_
  ·simp only[go_sem,simprocAttr]
  rw[← hG]at hR
  obtain⟨rfl,Q,g,rfl,hg⟩:=hR
  have gg:(G++g)[1]? = some (Wb (.raw (.pointer none)) (Wd ⟨i0,p0,true,r1,r2,r3,(k:Int),b0⟩)):=by rw[hG,← hE];rfl
  have uY:=Qd gg
  refine Qc hb ?_
  simp only[go_sem,simprocAttr,Qa,gg,uY]
  have hgl:(h++G).length=h.length+2:=by rw[List.length_append,EN]
  refine⟨rfl,_,h.length+G.length+2,rfl,by simp [EN],?_,fun _=>⟨k,rfl,?_⟩⟩
  ·rw[KW (k:=1) rfl]
   rw[Qw uY]
   rfl
  ·rw[hgl]at Q
   rw[EN]
   refine(Q.step (S':=fun l=>h.length+2≤l) fun l Zk Jf=>⟨Jf,?_⟩)
   have SV:h.length+2≤l:=Jf
   have e:∀X:Ob,h++(G++g).set 1 X=(h++G++g).set (h.length+1) X:=fun X=>by
    rw[List.append_assoc,List.set_append_right (s:=h) (h.length+1) X (by omega),Nat.add_sub_cancel_left]
   rw[e]
   exact Qt (by omega)
theorem CD {own:Nat→Tag} {h:List Ob} {l:Nat} {t0:Tag} (hl:own l=t0) (o:Ob):∀t,t≠t0→∀j,j<h.length→own j=t→own j=t∧(h.set l o)[j]? = h[j]? :=
 fun t ht j _ h1=>⟨h1,Qt (fun e=>ht (by rw[← h1,← e,hl]))⟩
theorem Xj {own:Nat→Tag} {h:List Ob} {l:Nat} {t0:Tag} (hl:own l=t0) (o:Ob) {j:Nat} {x:Ob} {t:Tag} (h1:own j=t) (ht:t≠t0) (h2:h[j]? = some x):(h.set l o)[j]? = some x:=
 ((CD hl o t ht j (Qd h2) h1).2).trans h2
section
variable {own:Nat→Tag} {h:List Ob} {p:Nat} {L:Loc} {M:Qh} (C:Q7 own h p L M)
include C
theorem Q7.congrN {N:List Nd} (e:∀id,Qg N id=Qg M.N id):Q7 own h p L { M with N:=N }:=
 ⟨C.ob,C.op,C.tr,C.JK,C.Wr.to fun id=>by dsimp only;rw[e],C.ow,fun id n hn=>C.Zz id n (by rw[← e];exact hn),fun id n hn=>C.KL id n (by rw[← e];exact hn),C.Ws,C.VC,C.J5,C.Vm,C.om,C.kids,fun id n hn=>C.Wt id n (by rw[← e];exact hn)⟩
theorem Q7.QpG {t2:Nat} {T2:List Qj} (R:Ke (fun l=>own l=.tree) h t2 T2):Q7 own (h.set p (X2 M.lk t2 L.b L.o L.v L.m M.Zd M.acc)) p { L with t:=t2 } { M with T:=T2 }:=by
 have r:=CD (h:=h) C.op (X2 M.lk t2 L.b L.o L.v L.m M.Zd M.acc)
 exact⟨Qw (Qd C.ob),C.op,R.step (r _ (by simp)),Xj C.op _ C.ow (by simp) C.JK,C.Wr,C.ow,fun j m hm=>⟨Xj C.op _ (C.Zz j m hm).2 (by simp) (C.Zz j m hm).1,(C.Zz j m hm).2⟩,fun j m hm hl=>by
  obtain⟨k,h1,h2⟩:=C.KL j m hm hl
  exact⟨k,h1,h2.step (r _ (by simp))⟩,C.Ws.step (r _ (by simp)),C.VC.step (r _ (by simp)),Xj C.op _ C.om (by simp) C.J5,C.Vm,C.om,fun j hj=>(C.kids j hj).step (r _ (by simp)),C.Wt⟩
theorem Q7.QpH {o2:Nat} {T2:List Qj} {A2:List Int} (R:Xv (fun l=>own l=.on) h o2 T2 A2):Q7 own (h.set p (X2 M.lk L.t L.b o2 L.v L.m M.Zd M.acc)) p { L with o:=o2 } { M with To:=T2,A:=A2 }:=by
 have r:=CD (h:=h) C.op (X2 M.lk L.t L.b o2 L.v L.m M.Zd M.acc)
 exact⟨Qw (Qd C.ob),C.op,C.tr.step (r _ (by simp)),Xj C.op _ C.ow (by simp) C.JK,C.Wr,C.ow,fun j m hm=>⟨Xj C.op _ (C.Zz j m hm).2 (by simp) (C.Zz j m hm).1,(C.Zz j m hm).2⟩,fun j m hm hl=>by
  obtain⟨k,h1,h2⟩:=C.KL j m hm hl
  exact⟨k,h1,h2.step (r _ (by simp))⟩,R.step (r _ (by simp)),C.VC.step (r _ (by simp)),Xj C.op _ C.om (by simp) C.J5,C.Vm,C.om,fun j hj=>(C.kids j hj).step (r _ (by simp)),C.Wt⟩
end
def q5 (N:List Nd) (id:Int):List Nd:=N.filter fun n=>n.c.iD != id
theorem CE (N:List Nd) (id j:Int):Qg (q5 N id) j=if j=id then none else Qg N j:=by
 unfold Qg q5
 rw[List.find?_filter]
 split
 ·rename_i e
  subst e
  rw[List.find?_eq_none]
  intro x _
  simp
 ·rename_i e
  congr 1
  funext x
  cases h1:x.c.iD==j with
  | false=>simp [h1]
  | true=>
   have:x.c.iD=j:=by simpa using h1
   simp [this,e]
section
variable {own:Nat→Tag} {h:List Ob} {p:Nat} {L:Loc} {M:Qh} (C:Q7 own h p L M)
include C
theorem Q7.QpI (id:Int):Q7 own (h.set L.b (QG .i64 L.cb (ZQ L.eb id))) p { L with eb:=ZQ L.eb id } { M with N:=q5 M.N id }:=by
 have r:=CD (h:=h) C.ow (QG .i64 L.cb (ZQ L.eb id))
 have f:∀j m,Qg (q5 M.N id) j=some m→Qg M.N j=some m:=fun j m hm=>by
  rw[CE]at hm
  split at hm
  ·cases hm
  ·exact hm
 refine⟨Xj C.ow _ C.op (by simp) C.ob,C.op,C.tr.step (r _ (by simp)),Qw (Qd C.JK),(C.Wr.del id).to fun j=>?_,C.ow,fun j m hm=>⟨Xj C.ow _ (C.Zz j m (f j m hm)).2 (by simp) (C.Zz j m (f j m hm)).1,(C.Zz j m (f j m hm)).2⟩,fun j m hm hl=>?_,C.Ws.step (r _ (by simp)),C.VC.step (r _ (by simp)),Xj C.ow _ C.om (by simp) C.J5,C.Vm,C.om,fun j hj=>(C.kids j hj).step (r _ (by simp)),fun j m hm=>C.Wt j m (f j m hm)⟩
 ·dsimp only
  rw[CE]
  split
  ·rfl
  ·rfl
 ·obtain⟨k,h1,h2⟩:=C.KL j m (f j m hm) hl
  exact⟨k,h1,h2.step (r _ (by simp))⟩
theorem Q7.QpJ (id:Int):Q7 own (h.set L.m (QG .i64 L.cm (ZQ L.em id))) p { L with em:=ZQ L.em id } { M with ks:=fun j=>if j=id then false else M.ks j }:=by
 have r:=CD (h:=h) C.om (QG .i64 L.cm (ZQ L.em id))
 refine⟨Xj C.om _ C.op (by simp) C.ob,C.op,C.tr.step (r _ (by simp)),Xj C.om _ C.ow (by simp) C.JK,C.Wr,C.ow,fun j m hm=>⟨Xj C.om _ (C.Zz j m hm).2 (by simp) (C.Zz j m hm).1,(C.Zz j m hm).2⟩,fun j m hm hl=>?_,C.Ws.step (r _ (by simp)),C.VC.step (r _ (by simp)),Qw (Qd C.J5),(C.Vm.del id).to fun j=>?_,C.om,fun j hj=>?_,C.Wt⟩
 ·obtain⟨k,h1,h2⟩:=C.KL j m hm hl
  exact⟨k,h1,h2.step (r _ (by simp))⟩
 ·dsimp only
  by_cases e:j=id<;>simp [e]
 ·dsimp only at hj
  by_cases e:j=id
  ·rw[if_pos e]at hj;cases hj
  ·rw[if_neg e]at hj
   exact(C.kids j hj).step (r _ (by simp))
theorem Q7.QpK (id:Int) {k:Nat} (T:KA (fun l=>own l=.VB id) h k []):∃c es,Ka .i64 L.cm L.em id (.ptr k 0 0 0)=QG .i64 c es ∧
  Q7 own (h.set L.m (Ka .i64 L.cm L.em id (.ptr k 0 0 0))) p { L with cm:=c,em:=es,lk:=fun j=>if j=id then k else L.lk j } { M with ks:=fun j=>if j=id then true else M.ks j,KT:=fun j=>if j=id then [] else M.KT j }:=by
 obtain⟨c,es,h1,h2⟩:=C.Vm.set .i64 L.cm id (.ptr k 0 0 0)
 refine⟨c,es,h1,?_⟩
 rw[h1]
 have r:=CD (h:=h) C.om (QG .i64 c es)
 refine⟨Xj C.om _ C.op (by simp) C.ob,C.op,C.tr.step (r _ (by simp)),Xj C.om _ C.ow (by simp) C.JK,C.Wr,C.ow,fun j m hm=>⟨Xj C.om _ (C.Zz j m hm).2 (by simp) (C.Zz j m hm).1,(C.Zz j m hm).2⟩,fun j m hm hl=>?_,C.Ws.step (r _ (by simp)),C.VC.step (r _ (by simp)),Qw (Qd C.J5),h2.to fun j=>?_,C.om,fun j hj=>?_,C.Wt⟩
 ·obtain⟨k,h1,h2⟩:=C.KL j m hm hl
  exact⟨k,h1,h2.step (r _ (by simp))⟩
 ·dsimp only
  by_cases e:j=id<;>simp [e]
 ·dsimp only at hj ⊢
  by_cases e:j=id
  ·subst e
   rw[if_pos rfl,if_pos rfl]
   exact T.step (r _ (by simp))
  ·rw[if_neg e]at hj
   rw[if_neg e,if_neg e]
   exact(C.kids j hj).step (r _ (by simp))
theorem Q7.QpL {n:Nd} {e q:Nat} (Dx:Qg M.N n.c.iD=none) (he:h[e]? = some (Wb (if n.c.leaf=true then .ptr q 0 0 0 else .raw (.pointer none)) n)) (ho:own e=.qF n.c.iD)
  (hq:n.c.leaf=true→∃k:Nat,n.c.Q9=k∧Y6 (fun l=>own l=.WJ n.c.iD) h q k n.c.bytes n.q) (KU:n.Ok):∃c es,Ka .i64 L.cb L.eb n.c.iD (.ptr e 0 0 0)=QG .i64 c es ∧
  Q7 own (h.set L.b (Ka .i64 L.cb L.eb n.c.iD (.ptr e 0 0 0))) p { L with cb:=c,eb:=es,le:=fun j=>if j=n.c.iD then e else L.le j,lq:=fun j=>if j=n.c.iD then q else L.lq j } { M with N:=n::M.N }:=by
 obtain⟨c,es,h1,h2⟩:=C.Wr.set .i64 L.cb n.c.iD (.ptr e 0 0 0)
 refine⟨c,es,h1,?_⟩
 rw[h1]
 have r:=CD (h:=h) C.ow (QG .i64 c es)
 have hf:∀j,Qg (n::M.N) j=if j=n.c.iD then some n else Qg M.N j:=fun j=>by
  unfold Qg
  rw[List.find?_cons]
  by_cases e:j=n.c.iD
  ·subst e;rw[if_pos rfl,beq_self_eq_true]
  ·rw[if_neg e,VG (fun x=>e x.symm)]
 have QQ:∀j m,Qg M.N j=some m→m.c.iD=j:=fun j m hm=>Qy.id hm
 have qe:∀j m,j≠n.c.iD→Qg M.N j=some m→qD (fun j=>if j=n.c.iD then q else L.lq j) m=qD L.lq m:=fun j m hj hm=>by
  unfold qD
  simp only[QQ j m hm,if_neg hj]
 refine⟨Xj C.ow _ C.op (by simp) C.ob,C.op,C.tr.step (r _ (by simp)),Qw (Qd C.JK),h2.to fun j=>?_,C.ow,fun j m hm=>?_,fun j m hm hl=>?_,C.Ws.step (r _ (by simp)),C.VC.step (r _ (by simp)),Xj C.ow _ C.om (by simp) C.J5,C.Vm,C.om,fun j hj=>(C.kids j hj).step (r _ (by simp)),fun j m hm=>?_⟩
 ·dsimp only
  rw[hf]
  by_cases e:j=n.c.iD
  ·rw[if_pos e,if_pos e,if_pos e];rfl
  ·rw[if_neg e,if_neg e,if_neg e]
 ·dsimp only at hm ⊢
  rw[hf]at hm
  by_cases e:j=n.c.iD
  ·rw[if_pos e]at hm
   cases hm
   rw[if_pos e,e]
   refine⟨?_,ho⟩
   rw[Xj C.ow _ ho (by simp) he]
   unfold qD
   dsimp only
   rw[if_pos rfl]
  ·rw[if_neg e]at hm
   rw[if_neg e,qe j m e hm]
   exact⟨Xj C.ow _ (C.Zz j m hm).2 (by simp) (C.Zz j m hm).1,(C.Zz j m hm).2⟩
 ·dsimp only at hm ⊢
  rw[hf]at hm
  by_cases e:j=n.c.iD
  ·rw[if_pos e]at hm
   cases hm
   rw[if_pos e,e]
   obtain⟨k,g1,g2⟩:=hq hl
   exact⟨k,g1,g2.step (r _ (by simp))⟩
  ·rw[if_neg e]at hm
   rw[if_neg e]
   obtain⟨k,g1,g2⟩:=C.KL j m hm hl
   exact⟨k,g1,g2.step (r _ (by simp))⟩
 ·dsimp only at hm
  rw[hf]at hm
  by_cases e:j=n.c.iD
  ·rw[if_pos e]at hm
   cases hm
   exact KU
  ·rw[if_neg e]at hm
   exact C.Wt j m hm
end
def Z2 (T2:List Qj) (M:Qh) (id:Int):Qh:=
 match Qr T2 id with
 | none=>{ M with N:=q5 M.N id,ks:=fun j=>if j=id then false else M.ks j }
 | some c=>if c.leaf=true then { M with N:=Wd c::q5 M.N id,ks:=fun j=>if j=id then false else M.ks j }
  else { M with N:=Wd c::q5 M.N id,ks:=fun j=>if j=id then true else M.ks j,KT:=fun j=>if j=id then [] else M.KT j }
def KE (M:Qh) (T2:List Qj):Qh:=(Je M.T T2).foldl (Z2 T2) { M with T:=T2 }
def ql (M:Qh) (T2:List Qj) (b:Bool):Bool:=(Je M.T T2).any (jQ M) || (Oa M.T T2&&(!b || decide (0<(J6 M).length)))
def Wx (M:Qh) (T2:List Qj):List Nd:=T2.map fun c=>Qx (KE M T2) c.iD
def qm (T2:List Qj) (A:List Int) (id:Int):List Int:=if 1<QI ((Qr T2 id).getD default).ls then id::A else A
def Xk (M:Qh) (T2:List Qj):Qh:={ KE M T2 with N:=Wx M T2,To:=T2,A:=[] }
def jR (M:Qh) (T2:List Qj):Qh:={ Xk M T2 with A:=(J6 (Xk M T2)).foldl (qm T2) [] }
def YE (M:Qh) (b:Bool) (l:List ZN):Int:=
 if jG M.T M.lk.t l≠0 then jG M.T M.lk.t l else if ql M (Wq M.T l) b=true then 24 else 0
def yv (M:Qh) (l:List ZN):Nat:=if jG M.T M.lk.t l≠0 then ER M.T l else 0
def VE (M:Qh) (b:Bool) (l:List ZN):Qh:=if YE M b l=0 then jR M (Wq M.T l) else M
theorem QpM (h:List Ob) (c:Qj) (hl:c.leaf=true→1≤c.Q9∧c.Q9≤64∧1≤c.bytes∧c.bytes≤1048576) :
  J8 prog 57 h [Vw c] (fun d g=>uX h c d (h++g)):=by
 refine QH.mono (QpD (h.map Ob.ro) c hl) ?_
 rintro d h' ⟨rfl,g,lq,rfl,h1,h2,h3⟩
 refine⟨g,rfl,by rw[List.length_map],g,lq,rfl,h1,?_,fun Yr=>?_⟩
 ·rw[List.length_map]at h2
  rw[List.getElem?_append_right (by rw[List.length_map];omega),List.length_map]at h2
  rw[List.getElem?_append_right (by omega)]
  exact h2
 ·obtain⟨k,hk,Q⟩:=h3 Yr
  refine⟨k,hk,Q.step fun l _ Jf=>?_⟩
  have SV:h.length+2≤l:=by
   have:(h.map Ob.ro).length+2≤l:=Jf
   rwa [List.length_map]at this
  exact⟨SV,by rw[List.getElem?_append_right (by omega),List.getElem?_append_right (by rw[List.length_map];omega),List.length_map]⟩
theorem uZ {c:Qj} (h:Qj.Ok c):(Wd c).Ok:=
 have z:(0:Nat)<18446744073709551616:=by decide
 ⟨z,⟨⟨Ln.Yv,Ln.Yv⟩,⟨Ln.Yv,Ln.Yv⟩,z,Nat.zero_le _,Nat.zero_le _⟩,⟨⟨Ln.Yv,Ln.Yv⟩,z⟩,⟨⟨Ln.Yv,Ln.Yv⟩,Nat.zero_le _⟩,h⟩
theorem QpN (A B:List Qj):(Je A B).length≤A.length+B.length:=by
 have h1:=EL (fun i=>(sorted (zM A B)).getD i 0) (sorted (zM A B)).length
 have h2:(sorted (zM A B)).length=(zM A B).length:=Al _
 have h3:(zM A B).length≤(A.map (·.iD)++B.map (·.iD)).length:=List.length_filter_le _ _
 have h4:(Je A B).length≤(sorted (zM A B)).length:=by simpa [Je,XA] using h1
 simp at h3
 omega
section
variable {T2:List Qj} (hr:KX T2)
include hr
theorem QpO (M:Qh) (j id:Int):Qg (Z2 T2 M j).N id=if id=j then (Qr T2 id).map Wd else Qg M.N id:=by
 unfold Z2
 cases hf:Qr T2 j with
 | none=>
  dsimp only
  rw[CE]
  by_cases e:id=j
  ·subst e;rw[if_pos rfl,if_pos rfl,hf];rfl
  ·rw[if_neg e,if_neg e]
 | some c=>
  have OI:=((KY hr).1 hf).2
  have key:Qg (Wd c::q5 M.N j) id=if id=j then (Qr T2 id).map Wd else Qg M.N id:=by
   by_cases e:id=j
   ·subst e
    rw[if_pos rfl,hf]
    unfold Qg
    rw[List.find?_cons,show ((Wd c).c.iD==id)=true by rw[show (Wd c).c.iD=c.iD from rfl,OI];exact beq_self_eq_true _]
    rfl
   ·rw[if_neg e]
    have:Qg (Wd c::q5 M.N j) id=Qg (q5 M.N j) id:=by
     unfold Qg
     rw[List.find?_cons,show ((Wd c).c.iD==id)=false by rw[show (Wd c).c.iD=c.iD from rfl,OI];exact VG (fun x=>e x.symm)]
    rw[this,CE,if_neg e]
  dsimp only
  split
  ·exact key
  ·exact key
theorem AR (id:Int):∀(l:List Int) (M:Qh),Qg (l.foldl (Z2 T2) M).N id=if id∈l then (Qr T2 id).map Wd else Qg M.N id
 | [],M=>by simp
 | j::l,M=>by
  rw[List.foldl_cons,AR id l,QpO hr]
  by_cases h1:id∈l
  ·rw[if_pos h1,if_pos (List.mem_cons_of_mem _ h1)]
  ·rw[if_neg h1]
   by_cases h2:id=j
   ·rw[if_pos h2,if_pos (by rw[h2];exact List.mem_cons_self)]
   ·rw[if_neg h2,if_neg (by simp [h1,h2])]
omit hr in
theorem QpP (M:Qh) (j id:Int):(Z2 T2 M j).ks id=if id=j then (match Qr T2 id with|none=>false|some c=>!c.leaf) else M.ks id:=by
 unfold Z2
 by_cases e:id=j
 ·subst e
  rw[if_pos rfl]
  cases hf:Qr T2 id with
  | none=>simp
  | some c=>cases hl:c.leaf<;>simp [hl]
 ·rw[if_neg e]
  cases hf:Qr T2 j with
  | none=>simp [e]
  | some c=>cases hl:c.leaf<;>simp [e,hl]
omit hr in
theorem u0 (id:Int):∀(l:List Int) (M:Qh),(l.foldl (Z2 T2) M).ks id=if id∈l then (match Qr T2 id with|none=>false|some c=>!c.leaf) else M.ks id
 | [],M=>by simp
 | j::l,M=>by
  rw[List.foldl_cons,u0 id l,QpP]
  by_cases h1:id∈l
  ·rw[if_pos h1,if_pos (List.mem_cons_of_mem _ h1)]
  ·rw[if_neg h1]
   by_cases h2:id=j
   ·rw[if_pos h2,if_pos (by rw[h2];exact List.mem_cons_self)]
   ·rw[if_neg h2,if_neg (by simp [h1,h2])]
omit hr in
theorem QpQ (M:Qh) (j id:Int) {x:It} (h:x∈(Z2 T2 M j).KT id):x∈M.KT id:=by
 unfold Z2 at h
 split at h
 ·exact h
 ·split at h
  ·exact h
  ·dsimp only at h
   split at h
   ·cases h
   ·exact h
omit hr in
theorem OJ (id:Int) {x:It}:∀(l:List Int) (M:Qh),x∈(l.foldl (Z2 T2) M).KT id→x∈M.KT id
 | [],M,h=>h
 | j::l,M,h=>QpQ M j id (OJ id l (Z2 T2 M j) h)
omit hr in
theorem u6 (M:Qh) (j:Int):(Z2 T2 M j).T=M.T∧(Z2 T2 M j).Lv=M.Lv∧(Z2 T2 M j).lk=M.lk∧(Z2 T2 M j).Zd=M.Zd∧(Z2 T2 M j).acc=M.acc:=by
 unfold Z2
 split
 ·exact⟨rfl,rfl,rfl,rfl,rfl⟩
 ·split<;>exact⟨rfl,rfl,rfl,rfl,rfl⟩
omit hr in
theorem Fc:∀(l:List Int) (M:Qh),(l.foldl (Z2 T2) M).T=M.T∧(l.foldl (Z2 T2) M).Lv=M.Lv∧(l.foldl (Z2 T2) M).lk=M.lk∧(l.foldl (Z2 T2) M).Zd=M.Zd∧(l.foldl (Z2 T2) M).acc=M.acc
 | [],M=>⟨rfl,rfl,rfl,rfl,rfl⟩
 | j::l,M=>by
  obtain⟨a1,a2,a3,a4,a5⟩:=Fc l (Z2 T2 M j)
  obtain⟨b1,b2,b3,b4,b5⟩:=u6 (T2:=T2) M j
  rw[List.foldl_cons]
  exact⟨a1.trans b1,a2.trans b2,a3.trans b3,a4.trans b4,a5.trans b5⟩
end
section
variable {M:Qh} {T2:List Qj} (I:Qy M) (I2:JD T2)
include I I2
theorem u7 (id:Int):(Qg (KE M T2).N id).map (·.c)=Qr T2 id:=by
 unfold KE
 rw[AR I2.rising]
 by_cases h:id∈Je M.T T2
 ·rw[if_pos h]
  cases Qr T2 id<;>rfl
 ·rw[if_neg h]
  have:=fun e=>h (Cs.2 e)
  have e:Qr M.T id=Qr T2 id:=Classical.byContradiction this
  rw[← e,I.find]
theorem u9 {c:Qj} (hc:c∈T2):Qg (KE M T2).N c.iD=some (Qx (KE M T2) c.iD)∧(Qx (KE M T2) c.iD).c=c:=by
 have h1:=u7 I I2 c.iD
 rw[(KY I2.rising).2 ⟨hc,rfl⟩]at h1
 unfold Qx
 cases hn:Qg (KE M T2).N c.iD with
 | none=>rw[hn]at h1;cases h1
 | some n=>
  rw[hn,Option.map_some,Option.some.injEq]at h1
  exact⟨rfl,h1⟩
theorem Qaa:(Wx M T2).map (·.c)=T2:=by
 unfold Wx
 rw[List.map_map]
 conv=>rhs;rw[← List.map_id T2]
 exact List.map_congr_left fun c hc=>(u9 I I2 hc).2
theorem CG:∀id,Qg (Wx M T2) id=Qg (KE M T2).N id:=fun id=>by
 have h1:=Ut (Wx M T2) id
 rw[Qaa I I2]at h1
 have h2:=u7 I I2 id
 cases hn:Qg (Wx M T2) id with
 | none=>
  rw[hn]at h1
  rw[h1]at h2
  cases hm:Qg (KE M T2).N id with
  | none=>rfl
  | some m=>rw[hm]at h2;cases h2
 | some n=>
  have Ve:n∈Wx M T2:=List.mem_of_find?_eq_some hn
  have QQ:=Qy.id (M:=Xk M T2) hn
  obtain⟨c,hc,rfl⟩:=List.mem_map.1 Ve
  obtain⟨h3,h4⟩:=u9 I I2 hc
  rw[h4]at QQ
  rw[← QQ,h3]
theorem OK (K2:qV T2) {b:Bool} (hb:ql M T2 b=false) (jS:∀x∈M.Lv,x.ki∈J6 M) (AS:∀id,∀x∈M.KT id,∃n∈J6 M,x.ki∈up M.T n):Qy (Xk M T2):=by
 obtain⟨s1,s2,s3,s4,s5⟩:=Fc (T2:=T2) (Je M.T T2) { M with T:=T2 }
 have hT:(Xk M T2).T=T2:=s1
 have DL:∀id,jQ M id=true→Qr T2 id=Qr M.T id:=fun id Ip=>by
  refine Classical.byContradiction fun e=>?_
  have hm:=Cs.2 (fun x=>e x.symm:Qr M.T id≠Qr T2 id)
  unfold ql at hb
  rw[show (Je M.T T2).any (jQ M)=true from List.any_eq_true.2 ⟨id,hm,Ip⟩]at hb
  cases hb
 have Ao:∀x n,n∈J6 M→x∈up M.T n→jQ M x=true:=fun x n h1 h2=>List.any_eq_true.2 ⟨n,h1,by simpa using h2⟩
 have h0:(0:Int) ∉ Je M.T T2:=fun h=>by
  have f0:∀T:List Qj,JD T→Qr T 0=none:=fun T I=>by
   rw[Am]
   intro c hc e
   have:=I.ids c hc
   omega
  exact Cs.1 h (by rw[f0 _ I.tree,f0 _ I2])
 refine⟨by rw[hT];exact I2,by rw[hT];exact K2,hT.symm,hT.trans (Qaa I I2).symm,fun a ha=>(List.not_mem_nil ha).elim,fun id=>?_,fun x hx=>?_,fun id x hx=>?_,fun id x hx=>?_,?_,?_⟩
 ·show (KE M T2).ks id=true↔id=0∨∃n,Qg (Wx M T2) id=some n∧n.c.leaf=false
  rw[CG I I2]
  unfold KE
  rw[u0,AR I2.rising]
  by_cases h:id∈Je M.T T2
  ·rw[if_pos h,if_pos h]
   have QD:id≠0:=fun e=>h0 (e▸h)
   cases Qr T2 id with
   | none=>simp [QD]
   | some c=>simp [QD,Wd]
  ·rw[if_neg h,if_neg h]
   exact I.ks id
 ·have KS:x∈M.Lv:=by rw[← s2];exact hx
  have hl:=jS x KS
  obtain⟨n,hn,_,_⟩:=OG I (List.mem_filter.1 (show x.ki∈(YD M.T).filter _ from hl)).1
  have hs:x.ki∈up M.T x.ki:=by
   rw[Sk I.tree,I.some hn]
   exact List.mem_cons_self
  rw[hT,DL _ (Ao _ _ hl hs)]
  exact I.jH x KS
 ·have KS:x∈M.KT id:=OJ id (Je M.T T2) { M with T:=T2 } hx
  obtain⟨c,h1,h2⟩:=I.Yy id x KS
  obtain⟨n,h3,h4⟩:=AS id x KS
  exact⟨c,by rw[hT,DL _ (Ao _ _ h3 h4)];exact h1,h2⟩
 ·exact I.Yz id x (OJ id (Je M.T T2) { M with T:=T2 } hx)
 ·show (KE M T2).Zd≤_
  exact s4▸I.Zd
 ·show (KE M T2).acc≤_
  exact s5▸I.acc
end
theorem QpR {c:Qj} (h:JN c=0):c.leaf=true→1≤c.Q9∧c.Q9≤64∧1≤c.bytes∧c.bytes≤1048576:=by
 intro hl
 have h2:YU c=true:=by
  cases e:YU c with
  | true=>rfl
  | false=>
   exfalso
   unfold JN at h
   rw[hl,e]at h
   simp only[Bool.not_false,Bool.and_true,Bool.true_or,if_true]at h
   split at h
   ·omega
   ·split at h<;>omega
 unfold YU jq at h2
 simp only[Bool.and_eq_true,decide_eq_true_eq]at h2
 omega
theorem QpS (T2:List Qj) (M:Qh) (id:Int):(Z2 T2 M id).T=M.T:=by
 unfold Z2
 split
 ·rfl
 ·split<;>rfl
theorem U3 (T2:List Qj):∀(l:List Int) (M:Qh),(l.foldl (Z2 T2) M).T=M.T
 | [],_=>rfl
 | id::l,M=>by rw[List.foldl_cons,U3 T2 l,QpS]
theorem QpT {S:Nat→Prop} {h:List Ob} {p:Nat} {T:List Qj} {A:List Int} (O:Xv S h p T A) (leaf:Int) (c:Qj) (hc:Qr T leaf=some c) (W9:¬ 1<QI c.ls) :
  QH prog 58 h [.ptr p 0 0 0,Qb leaf] (fun d h'=>d=.tup [.nil,Qb 6]∧h'=h):=by
 obtain⟨b1,b2,b3,c1,c2,c3,Jd,Jj,Jo,kl,O⟩:=O
 have ho:=O.o
 have m1:=O.m1
 have k1:=O.f1.at_ leaf
 rw[YX,hc]at k1
 simp only[if_neg W9]at k1
 refine QX Qe 200 func58 rfl ntmps58 results58 rfl fun base w pl hb=>?_
 have Qf:=Qd ho
 have YY:=Qd m1
 simp only[go_sem,simprocAttr,Qa,ho,Qf,m1,YY,k1,Go.undef]
theorem Qab {T2:List Qj} {a:Int}:∀(l A:List Int),a∈l.foldl (qm T2) A→a∈l∨a∈A
 | [],A,h=>.inr h
 | id::l,A,h=>by
  rw[List.foldl_cons]at h
  rcases Qab l _ h with h|h
  ·exact .inl (List.mem_cons_of_mem _ h)
  ·unfold qm at h
   split at h
   ·rcases List.mem_cons.1 h with h|h
    ·exact .inl (h▸List.mem_cons_self)
    ·exact .inr h
   ·exact .inr h
theorem QpU {l:List Int} (h:l.Nodup) {k:Nat} (hk:k<l.length):l.getD k 0 ∉ l.take k:=fun h2=>by
 rw[← List.take_append_drop k l,List.nodup_append]at h
 refine h.2.2 _ h2 (l.getD k 0) ?_ rfl
 rw[List.getD_eq_getElem?_getD,List.getElem?_eq_getElem hk,List.drop_eq_getElem_cons hk]
 exact List.mem_cons_self
theorem QpV {M:Qh} {id:Int} (h:id∈J6 M):id∈YD M.T:=by unfold J6 qb at h;exact(List.mem_filter.1 h).1
theorem QpW {T:List Qj} (h:KX T):(YD T).Nodup:=by
 unfold YD
 have h2:(T.filter (·.leaf)).Pairwise (fun a b=>a.iD<b.iD):=List.Pairwise.filter _ h
 rw[List.nodup_iff_pairwise_ne,List.pairwise_map]
 exact h2.imp fun J3=>by omega
theorem QpX {M:Qh} (I:Qy M):(J6 M).Nodup:=List.Pairwise.filter _ (QpW I.tree.rising)
theorem QpY {own:Nat→Tag} {h:List Ob} {p:Nat} {L:Loc} {M:Qh} (C:Q7 own h p L M) (I:Qy M) (K:vz M.lk) (b:Bool) (l:List ZN) (hc:∀c∈l,ZN.Ok c) (hl:l.length<1000000)
  (jS:∀x∈M.Lv,x.ki∈J6 M) (AS:∀id,∀x∈M.KT id,∃n∈J6 M,x.ki∈up M.T n) :
  QH prog 17 h [.ptr p 0 0 0,QN b,HM l] (fun d h'=>∃own' L' M',Q7 own' h' p L' M'∧Qy M'∧QZ own h own' h' ∧
   d=.tup [Qb (yv M l),Qb (YE M b l)]∧M'=VE M b l):=by
 have ho:=C.ob
 refine QX Qe 200 func17 rfl ntmps17 results17 rfl fun base w pl hb=>?_
 have Qf:=Qd ho
 simp only[go_sem,simprocAttr,Qa,ho,Qf]
 refine Wj [10] Qe hb 200 mixed [(0,true),(1,true),(2,true),(3,true),(4,true),(5,true),(6,true),(7,true),(8,true),(9,true),(10,false),(11,true),(12,true),(13,true),(14,true),(15,true),(16,true),(17,true)] [] (by kernel_rfl) (by kernel_rfl) ?_
 simp only[go_sem,simprocAttr,Qa,ho,Qf]
 have hT:=Qd C.ob
 refine WD hb Qiw rfl ?_ (Qom C.tr I.tree I.wK M.lk.t K.t1 K.t2 l hc hl) rfl fun d h1 hR=>?_
 ·simp only[go_sem,simprocAttr]
 obtain⟨t2,rfl,hR2,g,rfl⟩:=hR
 obtain⟨JL,CA⟩:∃o,o=Za own h .tree:=⟨_,rfl⟩
 have C1:Q7 JL (h++g) p L M:=by rw[CA];exact C.step fun l hl _=>⟨qc hl,QU hl⟩
 have D1:QZ own h JL (h++g):=by rw[CA];exact QZ.app own h g .tree
 refine QF hb ?_
 simp only[go_sem,simprocAttr,Qa]
 by_cases hE:jG M.T M.lk.t l=0
 case neg=>
  have dE:(jG M.T M.lk.t l != 0)=true:=by simpa using hE
  have e1:YE M b l=jG M.T M.lk.t l:=by unfold YE;rw[if_pos hE]
  have e2:yv M l=ER M.T l:=by unfold yv;rw[if_pos hE]
  have e3:VE M b l=M:=by unfold VE;rw[e1,if_neg hE]
  simp only[go_sem,simprocAttr,Qa,dE]
  exact⟨JL,L,M,C1,I,D1,by rw[e1,e2],e3.symm⟩
 have dE:(jG M.T M.lk.t l != 0)=false:=by simpa using hE
 have KG:ER M.T l=0∨True:=.inr trivial
 have R2:Ke (fun l=>JL l=.tree) (h++g) t2 (Wq M.T l):=(hR2 hE).step fun l _ h1=>⟨by rw[CA];unfold Za;rw[if_pos h1],rfl⟩
 obtain⟨T2,CC⟩:∃T2,T2=Wq M.T l:=⟨_,rfl⟩
 rw[← CC]at R2
 obtain⟨I2,K2⟩:=tV I.tree I.wK hc
 rw[← CC]at I2 K2
 have Zp:=C1.ob
 have KM:=Qd Zp
 have hlen:=I.tree.len
 have Ot:=I2.len
 simp only[go_sem,simprocAttr,Qa,dE,Zp,KM,if_pos hE]
 have R1:=C1.tr.toR
 have Iq:(Je M.T T2).length<1000000:=by have:=QpN M.T T2;omega
 refine QK hb n8 rfl ?_ (tR R1 R2.toR (by omega) (by omega)) rfl fun d hR=>?_
 ·simp only[go_sem,simprocAttr,Qa]
 subst hR
 refine BE Qe hb 2 ?_
 simp only[go_sem,simprocAttr,Qa]
 first|refine Wg ?_|skip
 refine Hq (fun st=>ql M T2 b=false∧st=⟨[(0,.ptr p 0 0 0),(1,QN b),(6,Qb 0),(7,Qb 0),(8,.ptr t2 0 0 0),(11,ints (Je M.T T2))],h++g⟩) ?_ ?_
 ·refine Qc hb ?_
  simp only[go_sem,simprocAttr,Qa,Zp,KM]
  refine QK hb Gz rfl ?_ (U0 (h++g) (Je M.T T2) Iq (.clo 53 1 [.ptr p 0 0 0]) 53 1 [.ptr p 0 0 0] Qix rfl (jQ M) (fun h' n hm hx=>?_)) rfl fun d hR=>?_
  ·simp only[go_sem,simprocAttr,Qa]
  ·have key:∀(l:Nat) (o:Ob),((h++g).map Ob.ro)[l]? = some o→(h'.map Ob.ro)[l]? = some o:=fun l o e=>by
    obtain⟨g2,rfl⟩:=hx
    have e2:=ZA ((QU (Qd e)).trans e:((h++g).map Ob.ro++g2)[l]? = some o)
    rw[e2]
    rw[List.getElem?_map]at e
    obtain⟨o2,h2,rfl⟩:=Option.map_eq_some_iff.1 e
    rw[ro_ro]
   exact QpB (C1.ro.more key) I n
  subst hR
  rw[GN]
  refine Qc hb ?_
  obtain⟨own',QvA⟩:∃o,o=JL:=⟨_,rfl⟩
  have U4:ql M T2 b=true→∃own' L' M',Q7 own' (h++g) p L' M'∧Qy M'∧QZ own h own' (h++g)∧D.tup [Qb 0,Qb 24]=.tup [Qb (yv M l),Qb (YE M b l)]∧M'=VE M b l:=fun hB=>by
   have e1:YE M b l=24:=by unfold YE;rw[if_neg (by rw[hE];simp),← CC,if_pos hB]
   have e2:yv M l=0:=by unfold yv;rw[if_neg (by rw[hE];simp)]
   have e3:VE M b l=M:=by unfold VE;rw[e1];rfl
   exact⟨JL,L,M,C1,I,D1,by rw[e1,e2];rfl,e3.symm⟩
  cases Jg:(Je M.T T2).any (jQ M) with
  | true=>
   simp only[go_sem,simprocAttr,Qa]
   exact U4 (by unfold ql;rw[Jg];rfl)
  | false=>
   simp only[go_sem,simprocAttr,Qa,Zp,KM]
   cases qA:Oa M.T T2 with
   | false=>
    refine QK hb Rz rfl ?_ (U2 R1 R2.toR (by omega) (by omega) Iq) rfl fun d hR=>?_
    ·simp only[go_sem,simprocAttr,Qa,Zp,KM,qA]
    subst hR
    refine Qc hb ?_
    simp only[go_sem,simprocAttr,Qa,Zp,KM,qA]
    refine⟨_,⟨by unfold ql;rw[Jg,qA];rfl,rfl⟩,?_⟩
    exact Qk.frame (by simp only[go_sem,simprocAttr])
   | true=>
    cases b with
    | false=>
     refine QK hb Rz rfl ?_ (U2 R1 R2.toR (by omega) (by omega) Iq) rfl fun d hR=>?_
     ·simp only[go_sem,simprocAttr,Qa,Zp,KM,qA]
     subst hR
     refine Qc hb ?_
     simp only[go_sem,simprocAttr,Qa,Zp,KM,qA]
     exact U4 (by unfold ql;rw[qA];simp)
    | true=>
     refine QK hb Rz rfl ?_ (U2 R1 R2.toR (by omega) (by omega) Iq) rfl fun d hR=>?_
     ·simp only[go_sem,simprocAttr,Qa,Zp,KM,qA]
     subst hR
     refine Qc hb ?_
     simp only[go_sem,simprocAttr,Qa,Zp,KM,qA]
     refine QK hb RC rfl ?_ (U1 C1.ro I) rfl fun d hR=>?_
     ·simp only[go_sem,simprocAttr,Qa,Zp,KM]
     subst hR
     refine Qc hb ?_
     simp only[go_sem,simprocAttr,Qa,Zp,KM]
     cases hd:decide ((0:Int)<((J6 M).length:Int)) with
     | true=>
      simp only[go_sem,simprocAttr,Qa,hd]
      exact U4 (by unfold ql;rw[qA];simp;right;simpa using hd)
     | false=>
      simp only[go_sem,simprocAttr,Qa,hd]
      refine⟨_,⟨by unfold ql;rw[Jg,qA];simp;simpa using hd,rfl⟩,?_⟩
      exact Qk.frame (by simp only[go_sem,simprocAttr])
 rintro st ⟨Vs,rfl⟩
 have C2:=C1.QpG R2
 have D2:=D1.trans (QZ.set (own:=JL) (h:=h++g) (l:=p) (X2 M.lk t2 L.b L.o L.v L.m M.Zd M.acc) (by rw[C1.op];decide))
 generalize hH2:(h++g).set p (X2 M.lk t2 L.b L.o L.v L.m M.Zd M.acc)=H2 at C2 D2
 have Qp1:(h++g).set p ⟨.one,0,9,1,fun _=>[.raw (.int .i64 M.lk.t),.raw (.int .i64 M.lk.K9),.ptr t2 0 0 0,.mref L.b 0,.ptr L.o 0 0 0,.ptr L.v 0 0 0,.mref L.m 0,.raw (.int .u64 (M.Zd:Nat)),.raw (.int .u64 (M.acc:Nat))]⟩=H2:=hH2
 refine Qc hb ?_
 simp only[go_sem,simprocAttr,Qa,Zp,KM,Qp1]
 obtain⟨tl,U5⟩:∃tl,tl=Je M.T T2:=⟨_,rfl⟩
 rw[← U5]at Iq
 rw[← U5]
 refine Zv (fun k st=>∃Kr H L2,Q7 Kr H p L2 ((tl.take k).foldl (Z2 T2) { M with T:=T2 })∧L2.t=t2∧QZ own h Kr H∧st=⟨[(0,.ptr p 0 0 0),(6,Qb 0),(7,Qb 0),(8,.ptr t2 0 0 0),(71,ints tl),(72,Qb tl.length),(73,Qb k)],H⟩) tl.length (s0:=⟨[(0,.ptr p 0 0 0),(6,Qb 0),(7,Qb 0),(8,.ptr t2 0 0 0),(71,ints tl),(72,Qb tl.length),(73,Qb 0)],H2⟩) (Qk.frame (by simp only[go_sem,simprocAttr])) ⟨JL,H2,_,C2,rfl,D2,rfl⟩ ?_
 rintro k st hk ⟨Kr,H,L2,Ck,Ym,Dk,rfl⟩
 by_cases Qn:k<tl.length
 ·have dk:=decide_eq_true Qn
  obtain⟨id,QQ⟩:∃id,id=tl.getD k 0:=⟨_,rfl⟩
  obtain⟨Mk,ym⟩:∃Mk,Mk=(tl.take k).foldl (Z2 T2) { M with T:=T2 }:=⟨_,rfl⟩
  have Zj:(tl.take (k+1)).foldl (Z2 T2) { M with T:=T2 }=Z2 T2 Mk id:=by
   rw[List.take_add_one,List.getElem?_eq_getElem Qn,List.foldl_append,← ym,QQ,List.getD_eq_getElem?_getD,List.getElem?_eq_getElem Qn];rfl
  have Fe:Mk.T=T2:=by rw[ym];exact U3 _ _ _
  rw[← ym]at Ck
  have Q3:=JX (show k<4611686018427387904 by omega)
  have RT:Kz H t2 T2:=by have:=Ck.tr.toR;rwa [Ym,Fe]at this
  obtain⟨x,hx⟩:∃x,x=(Qr T2 id).getD default:=⟨_,rfl⟩
  have Wf:=Ep RT id
  rw[← hx]at Wf
  have KO:=Ck.ob
  have qg:=Qd KO
  have YL:=Ck.JK
  have Qac:=Qd YL
  have KH:=Ck.J5
  have wa:=Qd KH
  have Bp:L2.b≠L2.m:=fun e=>by have:=Ck.ow;rw[e,Ck.om]at this;cases this
  have Wm:L2.b≠p:=fun e=>by have:=Ck.ow;rw[e,Ck.op]at this;cases this
  have hmp:L2.m≠p:=fun e=>by have:=Ck.om;rw[e,Ck.op]at this;cases this
  refine Qc hb ?_
  simp only[go_sem,simprocAttr,Qa,dk,Qn,← QQ]
  refine QK hb YQ rfl ?_ Wf rfl fun d hR=>?_
  ·simp only[go_sem,simprocAttr,Qa,KO,qg,YL,Qac,KH,wa,Qt Bp,Qt Wm]
  subst hR
  refine Qc hb ?_
  simp only[go_sem,simprocAttr,Qa,KO,qg,YL,Qac,KH,wa,Qt Bp,Qt Wm]
  have C3:=Ck.QpI id
  have D3:=Dk.trans (QZ.set (own:=Kr) (h:=H) (l:=L2.b) (QG .i64 L2.cb (ZQ L2.eb id)) (by rw[Ck.ow];decide))
  have C4:=C3.QpJ id
  have D4:=D3.trans (QZ.set (own:=Kr) (h:=H.set L2.b (QG .i64 L2.cb (ZQ L2.eb id))) (l:=L2.m) (QG .i64 L2.cm (ZQ L2.em id)) (by rw[Ck.om];decide))
  have C5:=C4.VP [⟨.one,0,14,1,fun _=>x.cells⟩]
  have D5:=D4.trans (QZ.app Kr _ [⟨.one,0,14,1,fun _=>x.cells⟩] .no)
  have XU:((H.set L2.b (QG .i64 L2.cb (ZQ L2.eb id))).set L2.m (QG .i64 L2.cm (ZQ L2.em id))).length=H.length:=by simp
  generalize hH5:(H.set L2.b (QG .i64 L2.cb (ZQ L2.eb id))).set L2.m (QG .i64 L2.cm (ZQ L2.em id))++[⟨.one,0,14,1,fun _=>x.cells⟩]=H5 at C5 D5
  have U6:=hH5
  simp only[go_sem,simprocAttr]at U6
  have U7:H5[H.length]? = some ⟨.one,0,14,1,fun _=>x.cells⟩:=by rw[← hH5,← XU,Kc rfl];rfl
  have Qaf:=Qd U7
  generalize Za Kr ((H.set L2.b (QG .i64 L2.cb (ZQ L2.eb id))).set L2.m (QG .i64 L2.cm (ZQ L2.em id))) .no=zR at C5 D5
  have wL:=C5.ob
  have E6:=Qd wL
  have Ie:=C5.JK
  have OA:=Qd Ie
  have sU:=C5.J5
  have QvB:=Qd sU
  cases hf:Qr T2 id with
  | none=>
   have e1:Z2 T2 Mk id={ Mk with N:=q5 Mk.N id,ks:=fun j=>if j=id then false else Mk.ks j }:=by unfold Z2;rw[hf]
   have C5s:Q7 zR H5 p { L2 with eb:=ZQ L2.eb id,em:=ZQ L2.em id } (Z2 T2 Mk id):=by rw[e1];exact C5
   rw[hf]at Wf
   simp only[go_sem,simprocAttr,Qa,hf,Option.isSome_none,U6]
   exact⟨Qn,_,Qk.frame (by simp only[go_sem,simprocAttr,Q3]),zR,H5,{ L2 with eb:=ZQ L2.eb id,em:=ZQ L2.em id },(by rw[Zj];exact C5s),Ym,D5,rfl⟩
  | some c=>
   have MW:x=c:=by rw[hx,hf];rfl
   obtain⟨Ve,OI⟩:=(KY I2.rising).1 hf
   subst MW
   have TO:=QpR (I2.right x Ve)
   have Wh:=QpM H5 x TO
   simp only[go_sem,simprocAttr,Qa,hf,Option.isSome_some,U6]
   refine QA Qe hb 200 mixed [(0,true),(1,true),(2,true),(3,true),(4,true),(5,true),(6,false),(7,false)] (by kernel_rfl) (by kernel_rfl) ?_
   simp only[go_sem,simprocAttr,Qa,wL,E6,U7,Qaf]
   refine Gx hb Qiy rfl ?_ Wh rfl fun d g7 hR=>?_
   ·simp only[go_sem,simprocAttr]
   obtain⟨rfl,g8,lq,hg8,QvC,EH,Qp4⟩:=hR
   obtain rfl:g7=g8:=List.append_cancel_left hg8
   subst OI
   obtain⟨Xh,U8⟩:∃o:Nat→Tag,o=fun l=>if l<H5.length then zR l else if l=H5.length then .no else if l=H5.length+1 then .qF x.iD else .WJ x.iD:=⟨_,rfl⟩
   have w7:∀l,l<H5.length→Xh l=zR l:=fun l hl=>by rw[U8];exact if_pos hl
   have we:Xh (H5.length+1)=.qF x.iD:=by rw[U8];dsimp only;rw[if_neg (by omega),if_neg (by omega),if_pos rfl]
   have wq:∀l,H5.length+2≤l→Xh l=.WJ x.iD:=fun l hl=>by rw[U8];dsimp only;rw[if_neg (by omega),if_neg (by omega),if_neg (by omega)]
   have C7:=C5.step (own':=Xh) (h':=H5++g7) fun l hl _=>⟨w7 l hl,QU hl⟩
   have D7:QZ own h Xh (H5++g7):=D5.trans ⟨w7,fun l hl _=>QU hl,by simp⟩
   obtain⟨c8,es8,hm8,C8⟩:=C7.QpL (n:=Wd x) (e:=H5.length+1) (q:=lq) (by dsimp only;rw[CE];exact if_pos rfl) EH we (fun Yr=>by
    obtain⟨k8,hk8,Uy⟩:=Qp4 Yr
    exact⟨k8,hk8,Uy.step fun l _ hl=>⟨wq l hl,rfl⟩⟩) (uZ (K2 x Ve))
   obtain⟨M8,U9⟩:∃M8,M8={ Mk with N:=Wd x::q5 Mk.N x.iD,ks:=fun j=>if j=x.iD then false else Mk.ks j }:=⟨_,rfl⟩
   obtain⟨L8,af⟩:∃L8:Loc,L8={ L2 with em:=ZQ L2.em x.iD,cb:=c8,eb:=es8,le:=fun j=>if j=x.iD then H5.length+1 else L2.le j,lq:=fun j=>if j=x.iD then lq else L2.lq j }:=⟨_,rfl⟩
   have C8:Q7 Xh ((H5++g7).set L2.b (Ka .i64 L2.cb (ZQ L2.eb x.iD) x.iD (.ptr (H5.length+1) 0 0 0))) p L8 M8:=by rw[af,U9];exact C8
   have l8t:L8.t=t2:=by rw[af];exact Ym
   have l8m:L8.m=L2.m:=by rw[af]
   have D8:=D7.trans (QZ.set (own:=Xh) (h:=H5++g7) (l:=L2.b) (Ka .i64 L2.cb (ZQ L2.eb x.iD) x.iD (.ptr (H5.length+1) 0 0 0)) (by rw[C7.ow];decide))
   have eH:(H5++g7).set L2.b (Ka .i64 L2.cb (ZQ L2.eb x.iD) x.iD (.ptr (H5.length+1) 0 0 0))=H5.set L2.b (Ka .i64 L2.cb (ZQ L2.eb x.iD) x.iD (.ptr (H5.length+1) 0 0 0))++g7:=List.set_append_left _ _ OA
   have Qp7:L2.b≠H.length:=fun e=>by
    have h1:=Qd Ck.JK
    omega
   have Ir:((H5++g7).set L2.b (Ka .i64 L2.cb (ZQ L2.eb x.iD) x.iD (.ptr (H5.length+1) 0 0 0)))[H.length]? = some ⟨.one,0,14,1,fun _=>x.cells⟩:=(Qt Qp7).trans ((QU Qaf).trans U7)
   rw[eH]at Ir C8 D8
   generalize hH8:H5.set L2.b (Ka .i64 L2.cb (ZQ L2.eb x.iD) x.iD (.ptr (H5.length+1) 0 0 0))++g7=H8 at Ir C8 D8
   have Qah:=Qd Ir
   have ho8:=C8.ob
   have Qp9:=Qd ho8
   have Qaj:=C8.J5
   have Qak:=Qd Qaj
   refine QF hb ?_
   simp only[go_sem,simprocAttr,Qa,Ie,OA,hH8]
   cases Yr:x.leaf with
   | true=>
    simp only[go_sem,simprocAttr,Qa,Ir,Qah,Yr]
    have e1:Z2 T2 Mk x.iD=M8:=by unfold Z2;rw[hf,U9];dsimp only;rw[if_pos Yr]
    exact⟨Qn,_,Qk.frame (by simp only[go_sem,simprocAttr,Q3]),Xh,H8,L8,(by rw[Zj,e1];exact C8),l8t,D8,rfl⟩
   | false=>
    simp only[go_sem,simprocAttr,Qa,Ir,Qah,Yr]
    have C9:=C8.step (own':=Za Xh H8 (.VB x.iD)) (h':=H8++qk H8.length) fun l hl _=>⟨qc hl,QU hl⟩
    have D9:QZ own h (Za Xh H8 (.VB x.iD)) (H8++qk H8.length):=D8.trans (QZ.app Xh H8 (qk H8.length) (.VB x.iD))
    have un:∀l,H8.length≤l→Za Xh H8 (.VB x.iD) l=.VB x.iD:=fun l hl=>by unfold Za;rw[if_pos hl]
    obtain⟨c10,Qqb,QvF,zO⟩:=C9.QpK x.iD (k:=H8.length+2) (UW (S:=fun l=>Za Xh H8 (.VB x.iD) l=.VB x.iD) (by rw[Kc rfl];rfl) (by rw[KW (k:=1) rfl];rfl) (by rw[KW (k:=2) rfl];rfl) (un _ (by omega)) (un _ (by omega)) (un _ (by omega)))
    have AO:=D9.trans (QZ.set (own:=Za Xh H8 (.VB x.iD)) (h:=H8++qk H8.length) (l:=L8.m) (Ka .i64 L8.cm L8.em x.iD (.ptr (H8.length+2) 0 0 0)) (by rw[C9.om];decide))
    have eH2:(H8++qk H8.length).set L8.m (Ka .i64 L8.cm L8.em x.iD (.ptr (H8.length+2) 0 0 0))=H8.set L8.m (Ka .i64 L8.cm L8.em x.iD (.ptr (H8.length+2) 0 0 0))++qk H8.length:=List.set_append_left _ _ Qak
    rw[eH2]at zO AO
    generalize Qqd:H8.set L8.m (Ka .i64 L8.cm L8.em x.iD (.ptr (H8.length+2) 0 0 0))++qk H8.length=H10 at zO AO
    refine QA Qe hb 200 mixed [(0,true),(1,true),(2,true),(3,true),(4,true),(5,false),(6,false)] (by kernel_rfl) (by kernel_rfl) ?_
    simp only[go_sem,simprocAttr,Qa,ho8,Qp9]
    refine Gx hb nZ rfl ?_ (uQ H8) rfl fun d g9 hR=>?_
    ·simp only[go_sem,simprocAttr]
    obtain⟨rfl,rfl⟩:=hR
    refine QF hb ?_
    simp only[go_sem,simprocAttr,Qa,Qaj,Qak,Qqd]
    have e1:Z2 T2 Mk x.iD={ M8 with ks:=fun j=>if j=x.iD then true else M8.ks j,KT:=fun j=>if j=x.iD then [] else M8.KT j }:=by
     unfold Z2;rw[hf,U9];dsimp only;rw[if_neg (by rw[Yr];exact Bool.false_ne_true)]
     congr 1
     funext j
     by_cases e:j=x.iD
     ·rw[if_pos e,if_pos e]
     ·rw[if_neg e,if_neg e,if_neg e]
    exact⟨Qn,_,Qk.frame (by simp only[go_sem,simprocAttr,Q3]),Za Xh H8 (.VB x.iD),H10,{ L8 with cm:=c10,em:=Qqb,lk:=fun j=>if j=x.iD then H8.length+2 else L8.lk j },(by rw[Zj,e1];exact zO),l8t,AO,rfl⟩
 ·have ZE:k=tl.length:=by omega
  subst ZE
  have hTl:(tl.take tl.length).foldl (Z2 T2) { M with T:=T2 }=KE M T2:=by rw[List.take_length,U5];rfl
  rw[hTl]at Ck
  have Fe:(KE M T2).T=T2:=U3 _ _ _
  have RT:Kz H t2 T2:=by have:=Ck.tr.toR;rwa [Ym,Fe]at this
  have dk:decide (tl.length<tl.length)=false:=decide_eq_false (by omega)
  refine Qc hb ?_
  simp only[go_sem,simprocAttr,Qa,dk]
  refine Qc hb ?_
  simp only[go_sem,simprocAttr,Qa]
  refine QT hb n4 rfl ?_ (rB RT I2) rfl fun d Dd hR=>?_
  ·simp only[go_sem,simprocAttr]
  obtain⟨rfl,hO,g11,rfl⟩:=hR
  have ag:=Ck.step (own':=Za Kr H .on) (h':=H++g11) fun l hl _=>⟨qc hl,QU hl⟩
  have D11:=Dk.trans (QZ.app Kr H g11 .on)
  have Bs:Xv (fun l=>Za Kr H .on l=.on) (H++g11) (H.length+3) T2 []:=hO.step fun l _ hl=>⟨by unfold Za;rw[if_pos hl],rfl⟩
  have C12:=ag.QpH Bs
  have Is:=D11.trans (QZ.set (own:=Za Kr H .on) (h:=H++g11) (l:=p) (X2 (KE M T2).lk L2.t L2.b (H.length+3) L2.v L2.m (KE M T2).Zd (KE M T2).acc) (by rw[ag.op];decide))
  have Ff:Q7 _ _ p { L2 with o:=H.length+3 } (Xk M T2):=C12.congrN (N:=Wx M T2) (CG I I2)
  have Fh:Qy (Xk M T2):=OK I I2 K2 Vs jS AS
  have Iu:=ag.ob
  have Qqh:=Qd Iu
  generalize VN:(KE M T2).lk=ai at Ff Is Iu
  generalize Qam:(KE M T2).Zd=Qan at Ff Is Iu
  generalize Qo2:(KE M T2).acc=Qao at Ff Is Iu
  generalize Qqi:(H++g11).set p (X2 ai L2.t L2.b (H.length+3) L2.v L2.m Qan Qao)=aj at Ff Is
  have Qqj:(H++g11).set p ⟨.one,0,9,1,fun _=>[.raw (.int .i64 ai.t),.raw (.int .i64 ai.K9),.ptr L2.t 0 0 0,.mref L2.b 0,.ptr (H.length+3) 0 0 0,.ptr L2.v 0 0 0,.mref L2.m 0,.raw (.int .u64 (Qan:Nat)),.raw (.int .u64 (Qao:Nat))]⟩=aj:=Qqi
  refine Qc hb ?_
  simp only[go_sem,simprocAttr,Qa,Iu,Qqh,Qqj]
  refine QK hb RC rfl ?_ (U1 Ff.ro Fh) rfl fun d hR=>?_
  ·simp only[go_sem,simprocAttr,Qa]
  subst hR
  refine Qc hb ?_
  simp only[go_sem,simprocAttr,Qa]
  obtain⟨ll,WY⟩:∃ll,ll=J6 (Xk M T2):=⟨_,rfl⟩
  have QvG:ll.length≤64:=by rw[WY];exact uU Fh
  rw[← WY]
  refine Zv (fun k st=>∃WM H3,Q7 WM H3 p { L2 with o:=H.length+3 } { Xk M T2 with A:=(ll.take k).foldl (qm T2) [] }∧Qy { Xk M T2 with A:=(ll.take k).foldl (qm T2) [] }∧QZ own h WM H3∧st=⟨[(0,.ptr p 0 0 0),(6,Qb 0),(7,Qb 0),(122,ints ll),(123,Qb ll.length),(124,Qb k)],H3⟩) ll.length (s0:=⟨[(0,.ptr p 0 0 0),(6,Qb 0),(7,Qb 0),(122,ints ll),(123,Qb ll.length),(124,Qb 0)],aj⟩) (Qk.frame (by simp only[go_sem,simprocAttr])) ⟨_,aj,Ff,Fh,Is,rfl⟩ ?_
  rintro k st hk ⟨WM,H3,AT,CH,ak,rfl⟩
  by_cases jr:k<ll.length
  ·have an:=decide_eq_true jr
   obtain⟨id,QQ⟩:∃id,id=ll.getD k 0:=⟨_,rfl⟩
   have Q3:=JX (show k<4611686018427387904 by omega)
   obtain⟨Ak,aq⟩:∃Ak,Ak=(ll.take k).foldl (qm T2) []:=⟨_,rfl⟩
   have Zj:(ll.take (k+1)).foldl (qm T2) []=qm T2 Ak id:=by
    rw[List.take_add_one,List.getElem?_eq_getElem jr,List.foldl_append,← aq,QQ,List.getD_eq_getElem?_getD,List.getElem?_eq_getElem jr];rfl
   rw[← aq]at AT CH
   have Qqk:id∈J6 (Xk M T2):=by rw[← WY,QQ];exact OF jr
   obtain⟨nd,hn,Yr,P8⟩:=OG Fh (id:=id) (QpV Qqk)
   have KB:Qr T2 id=some nd.c:=by have:=Fh.some hn;rwa [show (Xk M T2).T=T2 from Fe]at this
   have W9:qm T2 Ak id=if 1<QI nd.c.ls then id::Ak else Ak:=by unfold qm;rw[KB];rfl
   have Z9:Zu T2 Ak id=false:=by
    rw[Bool.eq_false_iff]
    intro h9
    have h8:=(Ou I2 KB Yr Ak).1 h9
    rw[aq]at h8
    rcases Qab _ _ h8 with h7|h7
    ·have Zy:ll.Nodup:=by rw[WY];exact QpX Fh
     rw[QQ]at h7
     exact QpU Zy jr h7
    ·cases h7
   have VQ:=AT.ob
   have YA:=Qd VQ
   refine Qc hb ?_
   simp only[go_sem,simprocAttr,Qa,an,jr,← QQ,VQ,YA]
   by_cases hs:1<QI nd.c.ls
   ·rw[if_pos hs]at W9
    refine QT hb RD rfl ?_ (rq AT.Ws I2 (by have:=CH.VD;rwa [show ({ Xk M T2 with A:=Ak }:Qh).T=T2 from Fe]at this) id nd.c KB Yr hs Z9) rfl fun d h4 hR=>?_
    ·simp only[go_sem,simprocAttr]
    obtain⟨d1,rfl,kE,O4,s4⟩:=hR
    have C4:=AT.act O4 s4
    have I4:Qy { Xk M T2 with A:=id::Ak }:=CH.act (fun a ha=>by
     rcases List.mem_cons.1 ha with e|e
     ·exact⟨nd.c,by rw[e,show ({ Xk M T2 with A:=Ak }:Qh).T=T2 from Fe];exact KB,Yr,hs⟩
     ·exact CH.VD a e)
    have D4:=ak.trans (QZ.of (t:=.on) (by simp) s4)
    refine Qc hb ?_
    simp only[go_sem,simprocAttr,Qa]
    exact⟨jr,_,Qk.frame (by simp only[go_sem,simprocAttr,Q3]),_,h4,by rw[Zj,W9];exact C4,by rw[Zj,W9];exact I4,D4,rfl⟩
   ·rw[if_neg hs]at W9
    refine QT hb RD rfl ?_ (QpT AT.Ws id nd.c KB hs) rfl fun d h4 hR=>?_
    ·simp only[go_sem,simprocAttr]
    obtain⟨rfl,rfl⟩:=hR
    refine Qc hb ?_
    simp only[go_sem,simprocAttr,Qa]
    exact⟨jr,_,Qk.frame (by simp only[go_sem,simprocAttr,Q3]),WM,h4,by rw[Zj,W9];exact AT,by rw[Zj,W9];exact CH,ak,rfl⟩
  ·have hk4:k=ll.length:=by omega
   subst hk4
   have an:decide (ll.length<ll.length)=false:=decide_eq_false (by omega)
   have e1:YE M b l=0:=by unfold YE;rw[if_neg (by rw[hE];simp),← CC,if_neg (by rw[Vs];exact Bool.false_ne_true)]
   have e2:yv M l=0:=by unfold yv;rw[if_neg (by rw[hE];simp)]
   have e3:VE M b l={ Xk M T2 with A:=ll.foldl (qm T2) [] }:=by unfold VE;rw[if_pos e1,← CC,WY];rfl
   rw[List.take_length,← e3]at AT CH
   refine Qc hb ?_
   simp only[go_sem,simprocAttr,Qa,an]
   refine Qc hb ?_
   simp only[go_sem,simprocAttr,Qa]
   exact⟨WM,_,_,AT,CH,ak,by rw[e1,e2];rfl,rfl⟩
end Go.Fg.X
