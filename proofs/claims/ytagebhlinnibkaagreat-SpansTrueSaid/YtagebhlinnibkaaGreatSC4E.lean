/- Contracts and laws on the way to the statement. No conditions. -/
import Derived.Test.YtagebhlinnibkaaGreatNA4E
import Derived.Shelf.SlMaps.Clone
import Derived.Test.YtagebhlinnibkaaGreatCA3E
import Derived.Sort.AssemblyPlain
import Derived.Sort.LotD5
import Derived.Sort.Walk13a
set_option maxRecDepth 100000
set_option maxHeartbeats 16000000
set_option linter.unusedVariables false
set_option linter.unusedSimpArgs false
set_option linter.unusedSectionVars false
set_option linter.defProp false
namespace Go.Fg.X
open Go.Proofs Go.Fg
open Go.Proofs.Tryz
def Qax{x:Sh}(hx:x.Ok){c:Nc}(hc:c.Lt){low total}(hl:low<18446744073709551616)(ht:total<18446744073709551616):(if x.has then jw x.run (Wx c low (total*65536)) else Wx c low (total*65536)).Ok:=by
 have h1:=NI hc hl (y:=total*65536) (by omega);split
 ·exact Qao hx.run h1
 ·exact h1
def QyX{x:Sh}(hx:x.Ok){c:Nc}(hc:c.Lt){low total:Nat}(hl:low<18446744073709551616)(ht:total<18446744073709551616):(NN x c low total).Ok:=
 ⟨Qax hx hc hl ht,Qj1 (Qax hx hc hl ht) _⟩
def QyY{x:Sh}(hx:x.Ok)(total:Nat):(La x total).Ok:=by
 unfold La;split
 ·exact⟨hx.run,Qj1 hx.run _⟩
 ·exact hx
def QyZ(x:Sh)(hx:x.Ok)(c:Nc)(hc:c.Lt)(low total:Nat)(hl:low<18446744073709551616)(ht:total<18446744073709551616):Q4 prog 196 [.agg x.cells,EZ c,u64 low,u64 total] (Qn (.agg (NN x c low total).cells)):=by
 have h1:=NI hc hl (y:=total*65536) (by omega);have h2:=Qax hx hc hl ht;refine ZA 0 Qi 200 func196 rfl ntmps196 results196 rfl λbase w hb=>?_;simp only[go_sem];apply QH hb [0,1,2,1003,1004,1005,1006];simp only[go_sem];refine VX hb Db (Dv total 65536 ht (by decide)) (Qn.flat rfl) λd h hR=>?_;obtain⟨rfl,rfl⟩:=hR;apply WW hb;refine VX hb tx (Qan c hc low (total*65536) hl (by omega)) (Qn.flat rfl) λd h hR=>?_;obtain⟨rfl,rfl⟩:=hR;apply WW hb;cases h:x.has with
 | true=>
  rw[h,Qf rfl]at h2;rw[show NN x c low total=⟨true,jw x.run (Wx c low (total*65536)),GN (jw x.run (Wx c low (total*65536))) total⟩ from by unfold NN;rw[h];rfl];simp only[go_sem,h];refine Wu hb lh (mI x.run _ hx.run h1) (Qn.flat rfl) λd h hR=>?_;obtain⟨rfl,rfl⟩:=hR;apply Zi hb;apply QH hb [0,1,2,1003,4,1005];simp only[go_sem];refine VX hb tB (Qaw (jw x.run (Wx c low (total*65536))) h2 total ht) (Qn.flat rfl) λd h hR=>?_;obtain⟨rfl,rfl⟩:=hR;exact Ro hb
 | false=>
  rw[show NN x c low total=⟨true,Wx c low (total*65536),GN (Wx c low (total*65536)) total⟩ from by unfold NN;rw[h];rfl];simp only[go_sem,h];apply QH hb [0,1,2,1003,4,1005];simp only[go_sem];refine VX hb tB (Qaw (Wx c low (total*65536)) h1 total ht) (Qn.flat rfl) λd h hR=>?_;obtain⟨rfl,rfl⟩:=hR;exact Ro hb
def Qy0(x:Sh)(hx:x.Ok)(total:Nat)(ht:total<18446744073709551616):Q4 prog 201 [.agg x.cells,u64 total] (Qn (.agg (La x total).cells)):=by
 cases h:x.has with
 | true=>
  rw[show La x total=⟨true,x.run,GN x.run total⟩ from by unfold La;rw[h];rfl];refine ZA 0 Qi 200 func201 rfl ntmps201 results201 rfl λbase w hb=>?_;simp only[go_sem];simp only[go_sem,h];refine Wu hb tB (Qaw x.run hx.run total ht) (Qn.flat rfl) λd h hR=>?_;obtain⟨rfl,rfl⟩:=hR;exact qY hb
 | false=>
  rw[show La x total=x from by unfold La;rw[h];rfl];refine ZA 0 Qi 200 func201 rfl ntmps201 results201 rfl λbase w hb=>?_;simp only[go_sem];simp only[go_sem,h]
structure Cp where
 has:Bool
 run:Rn
 fit:Nat
deriving DecidableEq
instance:Inhabited Cp:=⟨⟨false,default,0⟩⟩
structure Cp.Ok (x:Cp):Prop where
 run:x.run.Ok
 fit:x.fit<=never
@[go_sem] def Cp.cells(x:Cp):List D:=[QJ x.has,u64 x.run.f.x,u64 (x.run.f.y / 18446744073709551616),u64 (x.run.f.y % 18446744073709551616),u64 x.run.f.m,u64 x.run.t.x,u64 (x.run.t.y / 18446744073709551616),u64 (x.run.t.y % 18446744073709551616),u64 x.run.t.m,QJ x.run.b,u64 x.fit]
def j0:Cp:=⟨false,⟨⟨0,0,0⟩,⟨0,0,0⟩,false⟩,0⟩
def AD(x:Cp)(total:Nat):Cp:=if x.has then ⟨true,x.run,j5 x.run (total*65536)⟩ else x
def BV(x:Cp)(c:Nc)(now total:Nat):Cp:=
 if c.of=0\/c.of=1 then j0
 else ⟨true,if x.has then jw x.run (Wx c now (total*65536)) else Wx c now (total*65536),j5 (if x.has then jw x.run (Wx c now (total*65536)) else Wx c now (total*65536)) (total*65536)⟩
def Qy1:j0.Ok:=⟨⟨Ln.wu,Ln.wu⟩,Z7 _⟩
def Qy2{x:Cp}(hx:x.Ok)(total:Nat):(AD x total).Ok:=by
 unfold AD;split
 ·exact⟨hx.run,aw _ _⟩
 ·exact hx
def Qj2{x:Cp}(hx:x.Ok){c:Nc}(hc:c.Lt){low total}(hl:low<18446744073709551616)(ht:total<18446744073709551616):(if x.has then jw x.run (Wx c low (total*65536)) else Wx c low (total*65536)).Ok:=by
 have h1:=NI hc hl (y:=total*65536) (by omega);split
 ·exact Qao hx.run h1
 ·exact h1
def Qy3{x:Cp}(hx:x.Ok){c:Nc}(hc:c.Lt){now total:Nat}(hl:now<18446744073709551616)(ht:total<18446744073709551616):(BV x c now total).Ok:=by
 unfold BV;split
 ·exact Qy1
 ·exact⟨Qj2 hx hc hl ht,aw _ _⟩
def Qaz(x:Cp)(hx:x.Ok)(total:Nat)(ht:total<18446744073709551616):Q4 prog 202 [.agg x.cells,u64 total] (Qn (.agg (AD x total).cells)):=by
 cases h:x.has with
 | true=>
  rw[show AD x total=⟨true,x.run,j5 x.run (total*65536)⟩ from by unfold AD;rw[h];rfl];refine ZA 0 Qi 200 func202 rfl ntmps202 results202 rfl λbase w hb=>?_;simp only[go_sem];simp only[go_sem,h];apply QH hb [0,1,2,1003,1004,5,1006];simp only[go_sem];refine VX hb Db (Dv total 65536 ht (by decide)) (Qn.flat rfl) λd h hR=>?_;obtain⟨rfl,rfl⟩:=hR;apply WW hb;refine VX hb lj (mJ x.run hx.run (total*65536) (by omega)) (Qn.flat rfl) λd h hR=>?_;obtain⟨rfl,rfl⟩:=hR;exact Ro hb
 | false=>
  rw[show AD x total=x from by unfold AD;rw[h];rfl];refine ZA 0 Qi 200 func202 rfl ntmps202 results202 rfl λbase w hb=>?_;simp only[go_sem];simp only[go_sem,h]
def Qy4(x:Cp)(hx:x.Ok)(c:Nc)(hc:c.Lt)(now total:Nat)(hl:now<18446744073709551616)(ht:total<18446744073709551616):Q4 prog 197 [.agg x.cells,EZ c,u64 now,u64 total] (Qn (.agg (BV x c now total).cells)):=by
 have h1:=NI hc hl (y:=total*65536) (by omega);have h2:=Qj2 hx hc hl ht;refine ZA 0 Qi 200 func197 rfl ntmps197 results197 rfl λbase w hb=>?_;simp only[go_sem];apply QH hb [0,1,2,1003,1004,1005,1006];simp only[go_sem];refine VX hb Db (Dv total 65536 ht (by decide)) (Qn.flat rfl) λd h hR=>?_;obtain⟨rfl,rfl⟩:=hR;apply WW hb;refine VX hb tx (Qan c hc now (total*65536) hl (by omega)) (Qn.flat rfl) λd h hR=>?_;obtain⟨rfl,rfl⟩:=hR;apply WW hb;refine Wu hb Gn (ar c.a c.d c.b) (Qn.flat rfl) λd h hR=>?_;obtain⟨rfl,rfl⟩:=hR;apply Zi hb;by_cases e:c.of=0\/c.of=1
 ·rw[show BV x c now total=j0 from Qf e];have e':VY c.a c.d c.b=0\/VY c.a c.d c.b=1:=e;rcases e' with e'|e'
  ·simp only[go_sem,e'];rfl
  ·simp only[go_sem,e'];rfl
 ·have d0:(VY c.a c.d c.b==0)=false:=by rw[jO];exact λh=>e (.inl h)
  have d1:(VY c.a c.d c.b==1)=false:=by rw[jO];exact λh=>e (.inr h)
  cases h:x.has with
  | true=>
   rw[h,Qf rfl]at h2;rw[show BV x c now total=AD ⟨true,jw x.run (Wx c now (total*65536)),0⟩ total from by unfold BV;rw[Qd e,h];rfl];simp only[go_sem,d0,d1,h];refine Wu hb lh (mI x.run _ hx.run h1) (Qn.flat rfl) λd h hR=>?_;obtain⟨rfl,rfl⟩:=hR;apply Zi hb;refine Wu hb tm (Qaz ⟨true,jw x.run (Wx c now (total*65536)),0⟩ ⟨h2,Z7 _⟩ total ht) (Qn.flat rfl) λd h hR=>?_;obtain⟨rfl,rfl⟩:=hR;exact qY hb
  | false=>
   rw[show BV x c now total=AD ⟨true,Wx c now (total*65536),0⟩ total from by unfold BV;rw[Qd e,h];rfl];simp only[go_sem,d0,d1,h];refine Wu hb tm (Qaz ⟨true,Wx c now (total*65536),0⟩ ⟨h1,Z7 _⟩ total ht) (Qn.flat rfl) λd h hR=>?_;obtain⟨rfl,rfl⟩:=hR;exact qY hb
def Qj3(a b):Q4 prog 177 [u64 a,u64 b] (Qn (u64 (max a b))):=by
 refine ZA 0 Qi 200 func177 rfl ntmps177 results177 rfl λbase w hb=>?_;simp only[go_sem];simp only[go_sem,RG]
def QaA:Go.Shelf.Ren:=⟨fun|5=>169|7=>206|n=>n,fun|23=>168|25=>3|3=>89|4=>4|20=>20|n=>n,fun|n=>n⟩
def Qy5:SlLaysW.n5 prog QaA:={
 mixed:=by kernel_rfl
 f5:=⟨f169.name,by kernel_rfl,func169.trans (congrArg some (show f169={ SlBodyW.n5 QaA with name:=f169.name } by kernel_rfl))⟩
 f7:=func206.trans (congrArg some (show f206=SlBodyW.n7 QaA by kernel_rfl))
 t4:=underlying4
 a4:=isAgg4
 z4:=sizeOf4
 v4:=zeroValue4
 t20:=underlying20
 a20:=isAgg20
 z20:=sizeOf20
 v20:=zeroValue20
 t23:=underlying168
 a23:=isAgg168
 z23:=sizeOf168
 v23:=zeroValue168 }
def Qy6{h:List Ob}{m c}{es}(hm:h[m]? = some (QS .i64 c es)):QK prog 169 h [.mref m 0] (λd h'=>d=.mref h.length 0/\h'=h++[QS .i64 c es]):=by
 intro Z base w pl vs Zd hZ R xk hv;match vs,xk with
 | [v],_=>
 obtain⟨o,p,b,h1,h2,h3,h4,h5⟩:=HI (hv 0 (by simp));rw[hm]at h1;cases h1;have hp:=h5 rfl;subst hp;have HO:v=.map (some b):=h3.2;subst HO;obtain⟨_,Ag⟩:=R.at_ m _ b 0 hm h2;obtain⟨CS,JP,aA,clock,hb,hn,Ku,ZP,E7,NO⟩:=Ag.map rfl;refine(AnyW.maps_Clone Qy5 b aA clock w hb).mono ?_;rintro e w' ⟨rfl,rfl⟩;have e:∀b,b<w.heap.size->(w.alloc (.map aA clock)).heap[b]? = w.heap[b]? := λb hb=>xY w _ b hb;have T:Go.Fg.Tr h pl w (h++[QS .i64 c es]) (pl++[some (w.heap.size,0)]) (w.alloc (.map aA clock)):=Go.Fg.Tr.push R e _ _ (by intro b q h;simp at h;omega);have Zk:pl.length=h.length:=R.len;refine⟨.map (some w.heap.size),.mref h.length 0,h++[QS .i64 c es],pl++[some (w.heap.size,0)],rfl,⟨rfl,rfl⟩,Zv.TI R e _ (QB _) Zd ?_,?_,T,FX Zd _⟩
 ·have hx:eV Z (h++[QS .i64 c es]) (pl++[some (w.heap.size,0)]) (w.alloc (.map aA clock)) (QS .i64 c es) w.heap.size 0:=
   ⟨rfl,JP,aA,clock,heap_alloc_new w _,hn,Ku,ZP.tr T,λi e he=>⟨(E7 i e he).1,(E7 i e he).2.1.tr T,(E7 i e he).2.2.1.tr T,(E7 i e he).2.2.2.tr T⟩,NO⟩
  exact hx
 ·exact .mref _ _ (QS .i64 c es) (some (w.heap.size,0)) w.heap.size (by simp) (by rw[<- Zk];simp) ⟨by simp[QS,Wr,Kd.ty],rfl⟩ (QB _) (λ_=>rfl)
def Qj4{S}{h:List Ob}{t}{T}(R:Wv S h t T):QK prog 120 h [.ptr t 0 0 0] (λd h'=>d=.ptr (h.length+1) 0 0 0/\Wv (λl=>h.length<=l) h' (h.length+1) T/\∃g,h'=h++g/\g.length=2):=by
 obtain⟨m,c,es,ht,hm,hT,_,_⟩:=R;refine Q6 Qi 200 func120 rfl ntmps120 results120 rfl λbase w pl hb=>?_;have ZD:=Qc ht;simp only[go_sem,Qa,ht,ZD];refine qZ hb Qvr (Qy6 hm) λd h hR=>?_;obtain⟨rfl,rfl⟩:=hR;apply QC hb;exact⟨⟨h.length,c,es,Vr rfl,Kx rfl,hT,by show h.length<=_;omega,QB _⟩,_,rfl,rfl⟩
def VR.nil:VR []:=⟨TreeInv.nil,by simp,by simp,by simp,by simp⟩
def Qy7{T:List Qw}(h:XD T){x:Qw}(hn:QF T x.iD=none):(WJ T x).length=T.length+1:=by
 rw[(Nk x h).length_eq,Vh];congr 1;unfold XT;rw[y7.2];intro c hc;have:=IB.1 hn c hc;simpa using this
def Qy8{T:List Qw}(h:XD T){x y:Qw}(hy:QF T x.iD=some y):(WJ T x).length<=T.length:=by
 rw[(Nk x h).length_eq,Vh];obtain⟨h1,h2⟩:=(Vs h).1 hy;have:(XT T x.iD).length<T.length:=by
  unfold XT;refine Nat.lt_of_le_of_ne (qL _ _) λe=>?_;have:=(List.length_filter_eq_length_iff.1 e) y h1;simp[h2]at this
 omega
section
variable {T:List Qw}(I:VR T)
include I
theorem VR.add{x:Qw}(h:Dg T x (up T x.parent).length=0):VR (WJ T x):=by
 unfold Dg at h;by_cases h0:VP x=0;case neg=>rw[Qf h0]at h;exact absurd h h0
 rw[Qd (by simpa using h0)]at h;cases h1:QF T x.iD with
 | some y=>rw[h1]at h;simp at h
 | none=>
  rw[h1,Qd (by simp)]at h;by_cases h2:T.length=64
  ·rw[Qf h2]at h;cases h
  rw[Qd h2]at h;by_cases h3:(x.parent≠0/\(QF T x.parent).isNone)\/((QF T x.parent).getD default).leaf=true
  ·rw[Qf h3]at h;cases h
  rw[Qd h3]at h;by_cases h4:1<Q7 x.ls/\qv T x.parent=false
  ·rw[Qf h4]at h;cases h
  rw[Qd h4]at h;by_cases h5:(up T x.parent).length=16
  ·rw[Qf h5]at h;cases h
  have Zg:=right_id h0;have hp:x.parent=0\/∃d,QF T x.parent=some d/\d.leaf=false:=by
   by_cases hp:x.parent=0
   ·exact .inl hp
   ·cases hf:QF T x.parent with
    | none=>exact absurd (.inl ⟨hp,by rw[hf];rfl⟩) h3
    | some d=>
     refine .inr ⟨d,rfl,?_⟩;rw[jK];exact λhl=>h3 (.inr (by rw[hf];exact hl))
  have I2:=I.toTreeInv.add h0 h1 (hp.elim .inl λ⟨d,hd,_⟩=>.inr (by rw[hd];rfl)) h5;refine⟨I2,λc hc=>?_,λc hc q7=>?_,λc hc hs q7=>?_,?_⟩
  ·rcases BL I.rising x hc with rfl|hc
   ·exact h0
   ·exact I.right c hc
  ·rcases BL I.rising x hc with rfl|hc
   ·rcases hp with hp|⟨d,hd,hl⟩
    ·exact absurd hp q7
    ·exact⟨d,by rw[BK I.rising,Qd Zg.2.2];exact hd,hl⟩
   ·obtain⟨d,hd,hl⟩:=I.J4 c hc q7;refine⟨d,?_,hl⟩;rw[BK I.rising,Qd (λe=>by rw[e,h1]at hd;cases hd)];exact hd
  ·rcases BL I.rising x hc with rfl|hc
   ·have Ks:qv T c.parent=true:=by
     rw[<- Bool.not_eq_false];exact λhf=>h4 ⟨hs,hf⟩
    unfold qv at Ks;unfold yx;rw[BK I.rising,Qd Zg.2.2];rw[Cr]at Ks;rcases Ks with Ks|Ks
    ·exact absurd (by simpa using Ks) q7
    ·exact Ks
   ·have Ks:=I.lS c hc hs q7;obtain⟨d,hd,hl⟩:=I.J4 c hc q7;unfold yx at Ks ⊢;rw[BK I.rising,Qd (λe=>by rw[e,h1]at hd;cases hd)];exact Ks
  ·rw[Qy7 I.rising h1];have:=I.len;omega
theorem VR.del{id}(h:Xl T id=[]):VR (XT T id):=by
 have I2:=I.toTreeInv.del h;have Jy:∀c∈T,c.parent≠id:=λc hc e=>by
  have:c.iD∈Xl T id:=Jk.2 ⟨c,J8.2 ⟨hc,by simpa using e⟩,rfl⟩;rw[h]at this;cases this
 refine⟨I2,λc hc=>I.right c (J8.1 hc).1,λc hc q7=>?_,λc hc hs q7=>?_,?_⟩
 ·have hc:=(J8.1 hc).1;obtain⟨d,hd,hl⟩:=I.J4 c hc q7;exact⟨d,by rw[UM I.rising,Qd (Jy c hc)];exact hd,hl⟩
 ·have hc:=(J8.1 hc).1;have:=I.lS c hc hs q7;unfold yx at this ⊢;rw[UM I.rising,Qd (Jy c hc)];exact this
 ·have:=qL (λc:Qw=>c.iD != id) T;have:=I.len;unfold XT;omega
theorem VR.set{x}(h:Di T x=0):VR (WJ T x):=by
 unfold Di at h;by_cases h0:VP x=0;case neg=>rw[Qf h0]at h;exact absurd h h0
 rw[Qd (by simpa using h0)]at h;cases h1:QF T x.iD with
 | none=>rw[h1,Qf (by rfl)]at h;cases h
 | some y=>
  rw[h1,Qd (by simp)]at h;simp only[KA]at h;by_cases h2:x.parent≠y.parent\/x.leaf≠y.leaf
  ·rw[Qf h2]at h;cases h
  rw[Qd h2]at h;have h2a:x.parent=y.parent:=jM λe=>h2 (.inl e);have h2b:x.leaf=y.leaf:=jM λe=>h2 (.inr e);by_cases h3:(1<Q7 x.ls/\qv T x.parent=false)\/(¬ 1<Q7 x.ls/\(Xl T x.iD).any (yx T)=true)
  ·rw[Qf h3]at h;cases h
  have Zg:=right_id h0;have hym:=(Vs I.rising).1 h1;have I2:=I.toTreeInv.set h0 h1 h2a;have Ap:∀p d,QF T p=some d->∃d',QF (WJ T x) p=some d'/\d'.leaf=d.leaf:=λp d hd=>by
   rw[BK I.rising];by_cases hp:p=x.iD
   ·rw[Qf hp];rw[hp,h1]at hd;cases hd;exact⟨x,rfl,h2b⟩
   ·rw[Qd hp];exact⟨d,hd,rfl⟩
  refine⟨I2,λc hc=>?_,λc hc q7=>?_,λc hc hs q7=>?_,?_⟩
  ·rcases BL I.rising x hc with rfl|hc
   ·exact h0
   ·exact I.right c hc
  ·have:∃d,QF T c.parent=some d/\d.leaf=false:=by
    rcases BL I.rising x hc with rfl|hc
    ·rw[h2a]at q7 ⊢;exact I.J4 y hym.1 q7
    ·exact I.J4 c hc q7
   obtain⟨d,hd,hl⟩:=this;obtain⟨d',h4,h5⟩:=Ap _ d hd;exact⟨d',h4,by rw[h5,hl]⟩
  ·unfold yx;rw[BK I.rising];by_cases hp:c.parent=x.iD
   ·rw[Qf hp];simp only[KA,XM];refine jM λhx=>h3 (.inr ⟨hx,?_⟩);rcases BL I.rising x hc with rfl|hc
    ·exact absurd hs hx
    ·rw[Eb];refine⟨c.iD,Jk.2 ⟨c,J8.2 ⟨hc,by simpa using hp⟩,rfl⟩,?_⟩;unfold yx;rw[(Vs I.rising).2 ⟨hc,rfl⟩];simpa using hs
   ·rw[Qd hp];rcases BL I.rising x hc with rfl|hc
    ·have Ks:qv T c.parent=true:=by
      rw[<- Bool.not_eq_false];exact λhf=>h3 (.inl ⟨hs,hf⟩)
     unfold qv at Ks;rw[Cr]at Ks;rcases Ks with Ks|Ks
     ·exact absurd (by simpa using Ks) q7
     ·exact Ks
    ·exact I.lS c hc hs q7
  ·have:=Qy8 I.rising h1;have:=I.len;omega
end
def yK(T:List Qw)(c:JH):Int:=if c.kind=1 then Dg T c.cls (up T c.cls.parent).length else if c.kind=3 then Di T c.cls else if c.kind=2 then Dh T c.cls.iD else 1
def Dz(T:List Qw)(c:JH):List Qw:=if yK T c=0 then (if c.kind=2 then XT T c.cls.iD else WJ T c.cls) else T
def VR.one{T}(I:VR T)(c):VR (Dz T c):=by
 unfold Dz;by_cases h:yK T c=0
 ·rw[Qf h];unfold yK at h;by_cases k1:c.kind=1
  ·rw[Qf k1]at h;rw[Qd (by omega)];exact I.add h
  ·rw[Qd k1]at h;by_cases k3:c.kind=3
   ·rw[Qf k3]at h;rw[Qd (by omega)];exact I.set h
   ·rw[Qd k3]at h;by_cases k2:c.kind=2
    ·rw[Qf k2]at h ⊢;unfold Dh at h;by_cases h1:(QF T c.cls.iD).isNone=true
     ·rw[Qf h1]at h;cases h
     ·rw[Qd h1]at h;by_cases h2:Xl T c.cls.iD≠[]
      ·rw[Qf h2]at h;cases h
      ·exact I.del (jM h2)
    ·rw[Qd k2]at h;cases h
 ·rw[Qd h];exact I
def Xm.toS{S}{h h'}{t m}{L}(A:Xm h t m L h')(st:S t)(sm:S m):Wv S h' t L/\Step S h h':=by
 obtain⟨⟨c,es,h1,h2,h3⟩,hl,ho⟩:=A;exact⟨⟨m,c,es,h1,h2,h3,st,sm⟩,⟨λl h4 h5=>ho l h4 (λe=>h5 (e▸sm)),hl⟩⟩
section
variable {S:Nat->Prop}{h:List Ob}{t:Nat}{T:List Qw}(R:Wv S h t T)(I:VR T)
include R I
theorem Qzb(x:Qw):QK prog 41 h [.ptr t 0 0 0,Yy x] (λd h'=>d=Qb (Dg T x (up T x.parent).length)/\Wv S h' t (if Dg T x (up T x.parent).length=0 then WJ T x else T)/\Step S h h'):=by
 obtain⟨m,c,es,h1,h2,h3,h4,h5⟩:=R;have:=I.len;exact QK.mono (QwQ h t m c h3 h1 h2 x 16 (by decide) (I.ends _)) λd h' ⟨e,A⟩=>⟨e,A.toS h4 h5⟩
theorem Qzc(x):QK prog 185 h [.ptr t 0 0 0,Yy x] (λd h'=>d=Qb (Di T x)/\Wv S h' t (if Di T x=0 then WJ T x else T)/\Step S h h'):=by
 obtain⟨m,c,es,h1,h2,h3,h4,h5⟩:=R;have:=I.len;exact QK.mono (QwW h t m c h3 (by omega) h1 h2 x) λd h' ⟨e,A⟩=>⟨e,A.toS h4 h5⟩
theorem Qzd(id):QK prog 187 h [.ptr t 0 0 0,Qb id] (λd h'=>d=Qb (Dh T id)/\Wv S h' t (if Dh T id=0 then XT T id else T)/\Step S h h'):=by
 obtain⟨m,c,es,h1,h2,h3,h4,h5⟩:=R;have:=I.len;exact QK.mono (QwR h t m c h3 (by omega) h1 h2 id) λd h' ⟨e,A⟩=>⟨e,A.toS h4 h5⟩
end
def Wv.app{S}{h:List Ob}{t}{T}(R:Wv S h t T)(g):Wv (λl=>S l/\l<h.length) (h++g) t T:=R.step λl hl hs=>⟨⟨hs,hl⟩,Qx hl⟩
def Qze{S}{h:List Ob}{t tb}{T}(R:Wv S h t T)(I:VR T)(x:Qw)(ZG:h[tb]? = some ⟨.one,0,1,1,λ_=>[.ptr t 0 0 0]⟩):QK prog 186 h [Yy x,.ptr tb 0 0 0] (λd h'=>d=Qb (Dh T x.iD)/\Wv S h' t (if Dh T x.iD=0 then XT T x.iD else T)/\Step S h h'):=by
 refine Q6 Qi 200 func186 rfl ntmps186 results186 rfl λbase w pl hb=>?_;have Ar:=Qc ZG;simp only[go_sem,Qa,ZG,Ar];refine qZ hb Qvx (Qzd (R.app _) I x.iD) λd h hR=>?_;obtain⟨rfl,R6,s6⟩:=hR;refine Qe hb ?_;simp only[go_sem,Qa,ZG,Ar];exact⟨R6.step λl _ hs=>⟨hs.1,rfl⟩,⟨λl h1 h2=>(s6.keep l (by simp;omega) (λh3=>h2 h3.1)).trans (Qx h1),by have:=s6.len;simp at this;omega⟩⟩
def Qzf{S}{h}{t}{T}(R:Wv S h t T)(I:VR T)(x:JH):QK prog 152 h [.ptr t 0 0 0,.agg x.cells] (λd h'=>d=Qb (yK T x)/\Wv S h' t (Dz T x)/\Step S h h'):=by
 have fin:∀{g h6:List Ob} {T':List Qw},Wv (λl=>S l/\l<h.length) h6 t T'->Step (λl=>S l/\l<h.length) (h++g) h6->Wv S h6 t T'/\Step S h h6:=λ{g h6 T'} R6 s6=>
  ⟨R6.step λl _ hs=>⟨hs.1,rfl⟩,⟨λl h1 h2=>(s6.keep l (by simp;omega) (λh3=>h2 h3.1)).trans (Qx h1),by have:=s6.len;simp at this;omega⟩⟩
 unfold Dz yK;by_cases k1:x.kind=1
 ·have d1:(x.kind==1)=true:=by simpa using k1
  simp only[Qf k1,Qd (show ¬ x.kind=2 by omega)];refine Q6 Qi 200 func152 rfl ntmps152 results152 rfl λbase w pl hb=>?_;simp only[go_sem,Qa,d1];refine Jh hb Quv (Qzb (R.app _) I x.cls) λd h hR=>?_;obtain⟨rfl,R6,s6⟩:=hR;apply Zi hb;exact fin R6 s6
 ·have d1:(x.kind==1)=false:=by simpa using k1
  simp only[Qd k1];by_cases k3:x.kind=3
  ·have d3:(x.kind==3)=true:=by simpa using k3
   simp only[Qf k3,Qd (show ¬ x.kind=2 by omega)];refine Q6 Qi 200 func152 rfl ntmps152 results152 rfl λbase w pl hb=>?_;simp only[go_sem,Qa,d1,d3];refine Jh hb Qvv (Qzc (R.app _) I x.cls) λd h hR=>?_;obtain⟨rfl,R6,s6⟩:=hR;apply Zi hb;exact fin R6 s6
  ·have d3:(x.kind==3)=false:=by simpa using k3
   simp only[Qd k3];by_cases k2:x.kind=2
   ·have d2:(x.kind==2)=true:=by simpa using k2
    simp only[Qf k2];refine Q6 Qi 200 func152 rfl ntmps152 results152 rfl λbase w pl hb=>?_;simp only[go_sem,Qa,d1,d2,d3];refine Jh hb Qvw (Qze (tb:=h.length) (R.app _) I x.cls (Kx rfl)) λd h hR=>?_;obtain⟨rfl,R6,s6⟩:=hR;apply Zi hb;exact fin R6 s6
   ·have d2:(x.kind==2)=false:=by simpa using k2
    simp only[Qd k2];refine Q6 Qi 200 func152 rfl ntmps152 results152 rfl λbase w pl hb=>?_;simp only[go_sem,Qa,d1,d2,d3];exact⟨R.step λl hl hs=>⟨hs,Qx hl⟩,Step.app S h _⟩
end Go.Fg.X
namespace Go.Fg
open Go.RowKit (Below)
section
variable {P:Program}{L:Jt}{base nt:Nat}{s:St}{o:Oper}{t:TypeId}{x i:Operand}
def U3(hL:Jq P L){v}(ho:o.op=.insert t x i v){p}{h'}(h:HY L s.h t (Qt s.fr x) (Qt s.fr i) (Qt s.fr v)=some (p,h'))(hp:p):∀(Z:Nat->Prop) pl a w,Rel Z base nt s pl a w->base<=w.heap.size->∃v w' Qm,((execOp a.eval o).run P w=.ok (.value v) w'\/((execOp a.eval o).run P w=.ok .skip w'/\v=Go.undef))/\Tr s.h pl w h' Qm w'/\Zv Z base h' Qm w'/\QE Z h' Qm w' .undef v/\Below base w w'/\kC w w':=by
 have h1:=QeO (P:=P) (base:=base) (nt:=nt) (o:=⟨o.dst,.mapUpdate t x i v,o.type,o.pos,o.after,o.guard⟩) hL rfl h hp;intro Z pl a w r hb;obtain⟨u,w',Qm,h2,h3⟩:=h1 Z pl a w r hb;have e:execOp a.eval ⟨o.dst,.mapUpdate t x i v,o.type,o.pos,o.after,o.guard⟩=execOp a.eval o:=by simp[execOp,ho]
 rw[e]at h2;exact⟨u,w',Qm,h2,h3⟩
end
section
variable {P:Program}{base nt:Nat}{w0:Start}{Q:Exit->St->Prop}{k:List Item}{s:St}{X:Cx}
def Qzg{L}(hL:Jq P L)(Zd:base<=w0.w.heap.size){K}{ty:TypeId}{pos}{after}{gd}{r}{t:TypeId}{x i v}{p}{h'}
  (h:HY L s.h t (Qt s.fr x) (Qt s.fr i) (Qt s.fr v)=some (p,h')) (hp:p) (hk:AX P base nt w0 K r ⟨s.fr,h'⟩):AX P base nt w0 K ((false,⟨none,.insert t x i v,ty,pos,after,gd⟩,none)::r) s:=by
 simp only[AX,XR,jo];intro Z z pl a w rr b;obtain⟨u,w',Qm,Zl,hT,hO,hv,hb,hC⟩:=U3 (P:=P) (base:=base) (nt:=nt) (o:=⟨none,.insert t x i v,ty,pos,after,gd⟩) hL rfl h hp Z pl a w rr (KZ Zd b.1.size);unfold Oper.wp;rcases Zl with Zl|⟨Zl,hu⟩
 ·rw[Zl];simp only[Oper.upon_value];exact⟨hC,.undef,_,Qm,u,hk,rr.Bg hT hO u,b.step hT hb,hT,rfl⟩
 ·rw[Zl];simp only[Oper.upon_skip];exact⟨hC,.undef,_,Qm,_,hk,rr.Bg hT hO _,b.step hT hb,hT,rfl⟩
def Qzh{L:Jt}(hL:Jq P L)(Zd:base<=w0.w.heap.size){K:St->Prop}{ty0:TypeId}{pos:String}{after:Array Edge}{gd:Option (Nat × Bool)}{r:List (Bool × Oper × G)}{t kt et a b a' b':Nat}{zt zt':List Value}{x i v:Operand}{q:IntKind}{l c:Nat}{es:List ZU}{n:Int}
  (ht:ty L t=some ⟨.map kt et,a,b,zt⟩) (xh:ty L kt=some ⟨.int q,a',b',zt'⟩) (hx:Qt s.fr x=.mref l 0) (hi:Qt s.fr i=.raw (.int q n)) (ho:s.h[l]? = some (QS q c es))
  (hk:AX P base nt w0 K r ⟨s.fr,s.h.set l (J2 q c es n (Qt s.fr v))⟩):AX P base nt w0 K ((false,⟨none,.insert t x i v,ty0,pos,after,gd⟩,none)::r) s:=by
 refine Qzg hL Zd (h':=s.h.set l (J2 q c es n (Qt s.fr v))) (p:=IsMap q (QS q c es)/\q=q/\0=0/\(QS q c es).kd.ro=false) ?_ ⟨?_,rfl,rfl,rfl⟩ hk
 ·rw[hx,hi];simp only[HY,ht,xh,ho];rw[rL,rM]
 ·exact(QeI q c es).mpr trivial
def GO(s1){id}{ops}(hX:zB P X)(hb:base<=w0.w.heap.size)(hm:P.follows .mixedOrders=true)(l)(R)(hB:EG [] X.L ops l R=true)(hU:CV ops s.fr=true)
  (Iu:∀s,Qp w0 s s1->QA P base nt w0 Q k .normal s) (h:Vk P base w0 X nt (Gg P base w0 X nt (λs=>Qp w0 s s1) R.length (kN [] ops R) (l.map (·.1))) (VO [] ops l) s):QA P base nt w0 Q (.code (.region id ops true)::k) .normal s:=by
 have hR:R.Nodup:=by
  simp only[EG,Z9]at hB;exact(gP hB.1.2).1
 exact QfI hX.L hb hm l R hB hU (AX.mono (λs hs=>sH hX hb (λs hs=>Iu s hs) _ _ _ s hR hs) _ _ (Ge hX hb _ _ h))
end
section
variable {P:Program}{L:Jt}{base nt:Nat}{w0:Start}{Q:Exit->St->Prop}
end
end Go.Fg
namespace Go.Fg
section
variable {P:Program}{base nt:Nat}{w0:Start}{Q:Exit->St->Prop}{k:List Item}{s:St}
def mO(P:Program)(base nt:Nat)(w0:Start)(Q:Exit->St->Prop)(k:List Item)(T:St->Prop):Exit->St->Prop
 | .normal,s=>∃s1,T s1/\Qp w0 s s1
 | e,s=>QA P base nt w0 Q k e s
variable {T:St->Prop}
@[go_sem] theorem QK9:mO P base nt w0 Q k T .normal s=∃s1,T s1/\Qp w0 s s1:=Vq rfl
@[go_sem] theorem QLa{j}:mO P base nt w0 Q k T (.exit j) s=QA P base nt w0 Q k (.exit j) s:=Vq rfl
@[go_sem] theorem QLb:mO P base nt w0 Q k T .ret s=QA P base nt w0 Q k .ret s:=Vq rfl
def Lb{x}{c}(T)(h1:QA P base nt w0 (mO P base nt w0 Q (.code c::k) T) [x] .normal s)(h2:∀s1,T s1->QA P base nt w0 Q (.code c::k) .normal s1):QA P base nt w0 Q (x::.code c::k) .normal s:=by
 have key:∀s',(∃s1,T s1/\Qp w0 s' s1)->QA P base nt w0 Q (.code c::k) .normal s':=λs' ⟨s1,ht,hw⟩=>qS hw (h2 s1 ht);cases x with
 | code x=>
  simp only[QA]at h1;show A P base nt w0 x _ s;refine h1.mono λe s' he=>?_;cases e with
  | normal=>exact key _ he
  | _=>exact he
 | ops l=>
  simp only[QA]at h1;show AG P base nt w0 l _ s;intro Z z pl a w r b;refine lH (λe a' w' ⟨s',Qm,hs,r',b'⟩=>⟨s',Qm,?_,r',b'⟩) _ _ _ (h1 Z z pl a w r b);cases e with
  | normal=>exact key _ hs
  | _=>exact hs
 | inBlock id=>simp only[QA]at h1 ⊢;exact key _ h1
 | inScope=>simp only[QA]at h1 ⊢;exact key _ h1
end
def aB:List Item->Bool
 | .inBlock _::k=>aB k
 | .inScope::k=>aB k
 | .code _::_=>true
 | .ops _::_=>true
 | []=>false
def DB{P}{base nt}{w0}{Q}{s s'}(h:Qp w0 s s'):∀{k:List Item},aB k=true->QA P base nt w0 Q k .normal s'->QA P base nt w0 Q k .normal s
 | [],hc,_=>by cases hc
 | .code c::k,_,hk=>qS h hk
 | .ops l::k,_,hk=>kO h hk
 | .inBlock n::k,hc,hk=>by
  rw[aB]at hc;simp only[QA]at hk ⊢;exact DB h hc hk
 | .inScope::k,hc,hk=>by
  rw[aB]at hc;simp only[QA]at hk ⊢;exact DB h hc hk
end Go.Fg
namespace Go.Fg.X
open Go.Proofs Go.Fg
open Go.Proofs.Tryz
@[go_sem] def uI(n:Int):D:=.raw (.int .u64 n)
def Qv(x y:Int):Bool:=decide (x<y)
def DC(d:Array Int):Nat->List D:=λi=>[uI d[i]!]
@[go_sem] theorem QLc(d:Array Int)(i):DC d i=[uI d[i]!]:=rfl
@[go_sem] def Zs(g:Nat)(d:Array Int):Ob:=⟨.arr,g,1,d.size,DC d⟩
structure QLd (h h':List Ob) (lo:Nat) (o:Ob):Prop where
 at_:h'[lo]? = some o
 KE:∀l,l<h.length->l≠lo->h'[l]? = h[l]?
 len:h.length<=h'.length
def Qzj(x):Q4 prog 265 [uI x] (Qn (QJ false)):=by
 refine ZA 0 Qi 200 func265 rfl ntmps265 results265 rfl λbase w hb=>?_;simp only[go_sem];simp only[go_sem,bne_self_eq_false]
def xC(x y):Q4 prog 208 [uI x,uI y] (Qn (QJ (Qv x y))):=by
 refine ZA 0 Qi 200 func208 rfl ntmps208 results208 rfl λbase w hb=>?_;simp only[go_sem];refine ZW hb Qh5 rfl ?_ (Qzj x) (Qn.flat rfl) rfl λd h hR=>?_
 ·simp only[go_sem,Go.undef]
 obtain⟨rfl,rfl⟩:=hR;refine Qe hb ?_;simp only[go_sem,Go.undef];unfold Qv;rfl
def xD{h:List Ob}{l}{o}(e:h[l]? = some o):h.set l o=h:=A9 λi=>by
 by_cases c:l=i
 ·subst c;rw[Qs (Qc e),e]
 ·rw[Qk c]
@[go_sem] def RH(n:Nat):Ob:=⟨.one,0,1,1,λ_=>[Qb n]⟩
section
variable {h:List Ob}{lo g:Nat}{d:Array Int}(ho:h[lo]? = some (Zs g d))
include ho
theorem QaC{sp}(s)(vh:h[sp]? = some (RH s))(Qz:sp≠lo)(a b)(ha:a<d.size)(ZG:b<d.size)(hs:s<1000000):
  QK prog 335 h [.ref lo g 0 d.size,Qb a,Qb b,.ptr sp 0 0 0] (λdd h'=>dd=.tup [Qb (Sort.order2 Qv d a b s).1,Qb (Sort.order2 Qv d a b s).2.1]/\h'=h.set sp (RH (Sort.order2 Qv d a b s).2.2)):=by
 have QT:=JX (show s<4611686018427387904 by omega);unfold Sort.order2;refine Q6 Qi 200 func335 rfl ntmps335 results335 rfl λbase w pl hb=>?_;have Qg:=Qc ho;have xE:=Qc vh;simp only[go_sem,Qa,ho,Qg,vh,xE];apply QH hb [0,1,2,3,4,5,6,7,1008];simp only[go_sem,ho,Qg,ha,ZG];refine VX hb kQ (xC d[b]! d[a]!) (Qn.flat rfl) λd h hR=>?_;obtain⟨rfl,rfl⟩:=hR;apply WW hb;cases hl:Qv d[b]! d[a]!
 ·simp only[go_sem,hl];exact(xD vh).symm
 ·simp only[go_sem,hl,vh,xE,QT]
theorem Qj6(a b s:Nat)(ha:a<d.size)(hb:b<d.size):(Sort.order2 Qv d a b s).1<d.size/\(Sort.order2 Qv d a b s).2.1<d.size/\(Sort.order2 Qv d a b s).2.2<=s+1:=by
 have _hu:=ho;unfold Sort.order2;split<;>simp_all
theorem QaD{sp}(s)(vh:h[sp]? = some (RH s))(Qz:sp≠lo)(a b c)(ha:a<d.size)(ZG:b<d.size)(Rb:c<d.size)(hs:s<900000):
  QK prog 334 h [.ref lo g 0 d.size,Qb a,Qb b,Qb c,.ptr sp 0 0 0] (λdd h'=>dd=Qb (Sort.median Qv d a b c s).1/\h'=h.set sp (RH (Sort.median Qv d a b c s).2)):=by
 have q1:=Qj6 ho a b s ha ZG;have q2:=Qj6 ho (Sort.order2 Qv d a b s).2.1 c (Sort.order2 Qv d a b s).2.2 q1.2.1 Rb;have xE:=Qc vh;have g1:∀o,(h.set sp o)[lo]? = some (Zs g d):=λo=>(Qk Qz).trans ho;have g2:∀o,(h.set sp o)[sp]? = some o:=λo=>Qs xE;unfold Sort.median;refine Q6 Qi 200 func334 rfl ntmps334 results334 rfl λbase w pl hb=>?_;have Qg:=Qc ho;have xE:=Qc vh;simp only[go_sem,Qa,ho,Qg,vh,xE];refine Jh hb tK (QaC ho s vh Qz a b ha ZG (by omega)) λd h hR=>?_;obtain⟨rfl,rfl⟩:=hR;apply Zi hb;refine VH hb tK rfl ?_ (QaC (g1 _) _ (g2 _) Qz _ c q1.2.1 Rb (by omega)) rfl λd h hR=>?_
 ·simp only[go_sem,JS]
 obtain⟨rfl,rfl⟩:=hR;refine Qe hb ?_;simp only[go_sem,JS];refine VH hb tK rfl ?_ (QaC (g1 _) _ (g2 _) Qz _ _ q1.1 q2.1 (by omega)) rfl λd h hR=>?_
 ·simp only[go_sem,JS]
 obtain⟨rfl,rfl⟩:=hR;refine Qe hb ?_;simp only[go_sem,JS]
theorem QaE{sp}(s)(vh:h[sp]? = some (RH s))(Qz:sp≠lo)(a)(ha:1<=a)(ZG:a+1<d.size)(hs:s<900000)(hz:d.size<1000000000):
  QK prog 333 h [.ref lo g 0 d.size,Qb a,.ptr sp 0 0 0] (λdd h'=>dd=Qb (Sort.medianAdjacent Qv d a s).1/\h'=h.set sp (RH (Sort.medianAdjacent Qv d a s).2)):=by
 have e1:IntKind.i64.wrap ((a:Int) - 1)=((a - 1:Nat):Int):=by rw[wrap64 (by omega) (by omega)];omega
 have e2:IntKind.i64.wrap ((a:Int)+1)=((a+1:Nat):Int):=by rw[wrap64 (by omega) (by omega)];omega
 unfold Sort.medianAdjacent;refine Q6 Qi 200 func333 rfl ntmps333 results333 rfl λbase w pl hb=>?_;have Qg:=Qc ho;have xE:=Qc vh;simp only[go_sem,Qa,ho,Qg,vh,xE,e1,e2];refine Jh hb tJ (QaD ho s vh Qz (a - 1) a (a+1) (by omega) (by omega) (by omega) hs) λd h hR=>?_;obtain⟨rfl,rfl⟩:=hR;exact qY hb
end
def QaF{d:Array Int}(a b c s:Nat)(ha:a<d.size)(hb:b<d.size)(hc:c<d.size):(Sort.median Qv d a b c s).1<d.size/\(Sort.median Qv d a b c s).2<=s+3:=by
 unfold Sort.median Sort.order2;dsimp only
 repeat' split
 all_goals simp_all
def GP:Sort.Hint->Nat
 | .unknown=>0
 | .increasing=>1
 | .decreasing=>2
def QaG(r:Nat × Nat):Nat × Sort.Hint:=(r.1,if r.2=0 then .increasing else if r.2=12 then .decreasing else .unknown)
section
variable (d:Array Int)(a b:Nat)
def Kz(k:Nat):Nat:=a+(b - a) / 4*k
def GQ:Nat × Nat:=Sort.medianAdjacent Qv d (Kz a b 1) 0
def GR:Nat × Nat:=Sort.medianAdjacent Qv d (Kz a b 2) (GQ d a b).2
def NP:Nat × Nat:=Sort.medianAdjacent Qv d (Kz a b 3) (GR d a b).2
def ch4:Nat × Nat:=Sort.median Qv d (GQ d a b).1 (GR d a b).1 (NP d a b).1 (NP d a b).2
def ch5:Nat × Nat:=Sort.median Qv d (Kz a b 1) (Kz a b 2) (Kz a b 3) 0
def chP:Nat × Nat:=if b - a >= 8 then (if b - a >= 50 then ch4 d a b else ch5 d a b) else (Kz a b 2,0)
theorem Qzk:Sort.choosePivot Qv d a b=QaG (chP d a b):=rfl
end
section
variable {h:List Ob}{lo g:Nat}{d:Array Int}(ho:h[lo]? = some (Zs g d))
include ho
theorem Qzl(a b)(Vo:a<b)(ZG:b<=d.size)(hz:d.size<1000000000):
  QK prog 323 h [.ref lo g 0 d.size,Qb a,Qb b] (λdd h'=>dd=.tup [Qb (Sort.choosePivot Qv d a b).1,Qb (GP (Sort.choosePivot Qv d a b).2)]/\∃t,h'=h++t):=by
 have e0:IntKind.i64.wrap ((b:Int) - a)=((b - a:Nat):Int):=by rw[wrap64 (by omega) (by omega)];omega
 have w0:∀n:Nat,n<1000000000->IntKind.i64.wrap (n:Int)=n:=λn hn=>wrap64 (by omega) (by omega);have e1:IntKind.i64.wrap (((b - a) / 4:Nat)*(1:Int))=(((b - a) / 4*1:Nat):Int):=by rw[wrap64 (by omega) (by omega)];omega
 have e2:IntKind.i64.wrap (((b - a) / 4:Nat)*(2:Int))=(((b - a) / 4*2:Nat):Int):=by rw[wrap64 (by omega) (by omega)];omega
 have e3:IntKind.i64.wrap (((b - a) / 4:Nat)*(3:Int))=(((b - a) / 4*3:Nat):Int):=by rw[wrap64 (by omega) (by omega)];omega
 have f1:IntKind.i64.wrap ((a:Int)+((b - a) / 4*1:Nat))=((Kz a b 1:Nat):Int):=by unfold Kz;rw[wrap64 (by omega) (by omega)];omega
 have f2:IntKind.i64.wrap ((a:Int)+((b - a) / 4*2:Nat))=((Kz a b 2:Nat):Int):=by unfold Kz;rw[wrap64 (by omega) (by omega)];omega
 have f3:IntKind.i64.wrap ((a:Int)+((b - a) / 4*3:Nat))=((Kz a b 3:Nat):Int):=by unfold Kz;rw[wrap64 (by omega) (by omega)];omega
 have f0:IntKind.i64.wrap (((b - a:Nat):Int).tdiv 4)=(((b - a) / 4:Nat):Int):=by rw[show ((b - a:Nat):Int).tdiv 4=(((b - a) / 4:Nat):Int) from rfl,wrap64 (by omega) (by omega)]
 refine Q6 Qi 200 func323 rfl ntmps323 results323 rfl λbase w pl hb=>?_;have Qg:=Qc ho;simp only[go_sem,Qa,ho,Qg,e0,f0,e1,e2,e3,f1,f2,f3];have g1:∀o:Ob,(h++[o])[lo]? = some (Zs g d):=λo=>by rw[JD Qg];exact ho
 have g2:∀o:Ob,(h++[o])[h.length]? = some o:=λo=>by simp
 have g3:∀o o':Ob,(h++[o]).set h.length o'=h++[o']:=λo o'=>by rw[UA rfl];rfl
 have Qz:h.length≠lo:=by omega
 rw[Qzk];unfold chP;by_cases c8:b - a >= 8
 ·rw[Qf c8];have d8:decide ((8:Int)<=(b - a:Nat))=true:=Q5 (by omega);by_cases aC:b - a >= 50
  ·rw[Qf aC];have d50:decide ((50:Int)<=(b - a:Nat))=true:=Q5 (by omega);simp only[go_sem,d8,d50];have q1:(GQ d a b).1<d.size/\(GQ d a b).2<=3:=by unfold GQ;exact QaF _ _ _ _ (by unfold Kz;omega) (by unfold Kz;omega) (by unfold Kz;omega)
   have q2:(GR d a b).1<d.size/\(GR d a b).2<=(GQ d a b).2+3:=by unfold GR;exact QaF _ _ _ _ (by unfold Kz;omega) (by unfold Kz;omega) (by unfold Kz;omega)
   have q3:(NP d a b).1<d.size/\(NP d a b).2<=(GR d a b).2+3:=by unfold NP;exact QaF _ _ _ _ (by unfold Kz;omega) (by unfold Kz;omega) (by unfold Kz;omega)
   refine VH hb tI rfl ?_ (QaE (g1 _) 0 (g2 _) Qz (Kz a b 1) (by unfold Kz;omega) (by unfold Kz;omega) (by omega) hz) rfl λd h hR=>?_
   ·simp only[go_sem,g3]
   obtain⟨rfl,rfl⟩:=hR;refine Qe hb ?_;simp only[go_sem,g3];refine VH hb tI rfl ?_ (QaE (g1 _) (GQ d a b).2 (g2 _) Qz (Kz a b 2) (by unfold Kz;omega) (by unfold Kz;omega) (by omega) hz) rfl λd h hR=>?_
   ·simp only[go_sem,g3]
   obtain⟨rfl,rfl⟩:=hR;refine Qe hb ?_;simp only[go_sem,g3];refine VH hb tI rfl ?_ (QaE (g1 _) (GR d a b).2 (g2 _) Qz (Kz a b 3) (by unfold Kz;omega) (by unfold Kz;omega) (by omega) hz) rfl λd h hR=>?_
   ·simp only[go_sem,g3]
   obtain⟨rfl,rfl⟩:=hR;refine Qe hb ?_;simp only[go_sem,g3];refine VH hb tJ rfl ?_ (QaD (g1 _) (NP d a b).2 (g2 _) Qz (Sort.medianAdjacent Qv d (Kz a b 1) 0).1 (Sort.medianAdjacent Qv d (Kz a b 2) (GQ d a b).2).1 (Sort.medianAdjacent Qv d (Kz a b 3) (GR d a b).2).1 q1.1 q2.1 q3.1 (by omega)) rfl λd h hR=>?_
   ·simp only[go_sem,g3]
   obtain⟨rfl,rfl⟩:=hR;refine Qe hb ?_;simp only[go_sem,g3];generalize hr:Sort.median Qv d (Sort.medianAdjacent Qv d (Kz a b 1) 0).1 (Sort.medianAdjacent Qv d (Kz a b 2) (GQ d a b).2).1 (Sort.medianAdjacent Qv d (Kz a b 3) (GR d a b).2).1 (NP d a b).2=r;have RI:ch4 d a b=r:=hr;rw[RI];simp only[go_sem,g2];unfold QaG;by_cases z0:r.2=0
   ·have z1:((r.2:Int)==0)=true:=by rw[z0];rfl
    simp only[go_sem,z1,z0];exact⟨rfl,_,rfl⟩
   ·have z1:((r.2:Int)==0)=false:=beq_eq_false_iff_ne.mpr (by omega);by_cases z12:r.2=12
    ·have z2:((r.2:Int)==12)=true:=by rw[z12];rfl
     simp only[go_sem,z1,z2,z0,z12];exact⟨rfl,_,rfl⟩
    ·have z2:((r.2:Int)==12)=false:=beq_eq_false_iff_ne.mpr (by omega);simp only[go_sem,z1,z2,z0,z12];exact⟨rfl,_,rfl⟩
  ·rw[Qd aC];have d50:decide ((50:Int)<=(b - a:Nat))=false:=QN (by omega);simp only[go_sem,d8,d50];refine VH hb tJ rfl ?_ (QaD (g1 _) 0 (g2 _) Qz (Kz a b 1) (Kz a b 2) (Kz a b 3) (by unfold Kz;omega) (by unfold Kz;omega) (by unfold Kz;omega) (by omega)) rfl λd h hR=>?_
   ·simp only[go_sem,g3]
   obtain⟨rfl,rfl⟩:=hR;refine Qe hb ?_;simp only[go_sem,g3];generalize hr:Sort.median Qv d (Kz a b 1) (Kz a b 2) (Kz a b 3) 0=r;have RI:ch5 d a b=r:=hr;rw[RI];simp only[go_sem,g2];unfold QaG;by_cases z0:r.2=0
   ·have z1:((r.2:Int)==0)=true:=by rw[z0];rfl
    simp only[go_sem,z1,z0];exact⟨rfl,_,rfl⟩
   ·have z1:((r.2:Int)==0)=false:=beq_eq_false_iff_ne.mpr (by omega);by_cases z12:r.2=12
    ·have z2:((r.2:Int)==12)=true:=by rw[z12];rfl
     simp only[go_sem,z1,z2,z0,z12];exact⟨rfl,_,rfl⟩
    ·have z2:((r.2:Int)==12)=false:=beq_eq_false_iff_ne.mpr (by omega);simp only[go_sem,z1,z2,z0,z12];exact⟨rfl,_,rfl⟩
 ·rw[Qd c8];have d8:decide ((8:Int)<=(b - a:Nat))=false:=QN (by omega);simp only[go_sem,d8,g2];exact⟨rfl,_,rfl⟩
end
def wy{h:List Ob}{lo g}{d}(hl:lo<h.length):(h.set lo (Zs g d))[lo]? = some (Zs g d):=Qs hl
def swp_size(d:Array Int)(i j:Nat):(Sort.swp d i j).size=d.size:=by simp[Sort.swp]
def vj(c:Bool)(x y:D):List.drop 1 (bif c then [x] else [y])=[]:=by cases c<;>rfl
def vk(g)(d:Array Int)(i j n)(hn:d.size=n)(hi:i<n)(hj:j<n):
  (⟨.arr,g,1,n,λk=>bif k==j then [.raw (.int .u64 d[i]!)] else bif k==i then [.raw (.int .u64 d[j]!)] else [.raw (.int .u64 d[k]!)]⟩:Ob)=Zs g (Sort.swp d i j):=by
 subst hn;unfold Zs;congr 1
 ·exact(swp_size d i j).symm
 ·funext k;unfold DC uI Sort.swp;by_cases k1:k=j
  ·subst k1;have e1:(k==k)=true:=Aa k;by_cases k2:k=i
   ·subst k2;simp[hi]
   ·simp[hi,hj,k2,Q8 k2]
  ·by_cases k2:k=i
   ·subst k2;have e1:(k==j)=false:=beq_eq_false_iff_ne.mpr k1;simp[hi,hj,k1,Q8 k1,e1]
   ·have e1:(k==j)=false:=beq_eq_false_iff_ne.mpr k1;have e2:(k==i)=false:=beq_eq_false_iff_ne.mpr k2;rw[e1,e2];by_cases k3:k<d.size
    ·simp[k1,k2,k3,Q8 k1,Q8 k2,pK]
    ·simp[k1,k2,k3]
section
variable {h:List Ob}{lo g:Nat}{d:Array Int}(ho:h[lo]? = some (Zs g d))
include ho
theorem Qzm(a b)(Vo:a<b)(ZG:b<=d.size)(hz:d.size<1000000000):
  QK prog 324 h [.ref lo g 0 d.size,Qb a,Qb b] (λdd h'=>dd=.tup []/\h'=h.set lo (Zs g (Sort.reverseRange d a b))):=by
 have e0:IntKind.i64.wrap ((b:Int) - 1)=((b - 1:Nat):Int):=by rw[wrap64 (by omega) (by omega)];omega
 refine Q6 Qi 200 func324 rfl ntmps324 results324 rfl λbase w pl hb=>?_;have Qg:=Qc ho;simp only[go_sem,Qa,ho,Qg,e0];refine Jg (λk st=>∃d':Array Int,d'.size=d.size/\Sort.reverseLoop (a+k) (b - 1 - k) d'=Sort.reverseRange d a b/\a+k<=b - k/\st=⟨[(0,.ref lo g 0 d.size),(6,Qb (a+k:Nat)),(7,Qb (b - 1 - k:Nat))],h.set lo (Zs g d')⟩) d.size (s0:=⟨[(0,.ref lo g 0 d.size),(6,Qb (a+0:Nat)),(7,Qb (b - 1 - 0:Nat))],h.set lo (Zs g d)⟩) ?_ ⟨d,rfl,rfl,by omega,rfl⟩ ?_
 ·rw[xD ho];exact Qp.frame (by simp only[go_sem,HF])
 rintro k _ hk ⟨d',hs,hd,hi,rfl⟩;have hl:=wy (g:=g) (d:=d') Qg;generalize hH:h.set lo (Zs g d')=H at hl;have IC:=Qc hl;by_cases c:a+k<b - 1 - k
 ·have c1:decide (a+k<b - 1 - k)=true:=Q5 c;have c2:a+k<d.size:=by omega
  have c3:b - 1 - k<d.size:=by omega
  refine Qe hb ?_;simp only[go_sem,Qa,hl,IC,c1];apply QH hb [0,1,2,3,4,5,6,7,8,9,10,11,12,1013,14,1015];simp only[go_sem,Qa,hl,IC,hs,c2,c3,Qs IC,JS,vj];have v1:IntKind.i64.wrap (((a+k:Nat):Int)+1)=((a+(k+1):Nat):Int):=by rw[wrap64 (by omega) (by omega)];omega
  have v2:IntKind.i64.wrap (((b - 1 - k:Nat):Int) - 1)=((b - 1 - (k+1):Nat):Int):=by rw[wrap64 (by omega) (by omega)];omega
  rw[vk g d' _ _ _ hs c2 c3,v1,v2];have KN:Sort.reverseLoop (a+(k+1)) (b - 1 - (k+1)) (Sort.swp d' (a+k) (b - 1 - k))=Sort.reverseRange d a b:=by
   rw[<- hd]
   conv=>rhs;rw[Sort.reverseLoop,Qf c]
   congr 1
  refine⟨by omega,_,?_,Sort.swp d' (a+k) (b - 1 - k),by rw[swp_size,hs],KN,by omega,rfl⟩;rw[<- hH,JS];exact QQ
 ·have c1:decide (a+k<b - 1 - k)=false:=QN c;refine Qe hb ?_;simp only[go_sem,Qa,hl,IC,c1];rw[Sort.reverseLoop,Qd c]at hd;subst hH;exact congrArg (λx=>h.set lo (Zs g x)) hd
end
def Qka(a):∀(j:Nat) (d:Array Int),(Sort.insInner Qv a j d).size=d.size
 | 0,d=>rfl
 | j+1,d=>by rw[Sort.insInner];split;rw[Qka a j,swp_size];rfl
section
variable {h:List Ob}{lo g:Nat}{d:Array Int}(ho:h[lo]? = some (Zs g d))
include ho
theorem Qzn(a b)(Vo:a<=b)(ZG:b<=d.size)(hz:d.size<1000000000):
  QK prog 320 h [.ref lo g 0 d.size,Qb a,Qb b] (λdd h'=>dd=.tup []/\h'=h.set lo (Zs g (Sort.insertionSort Qv d a b))):=by
 have e0:IntKind.i64.wrap ((a:Int)+1)=((a+1:Nat):Int):=by rw[wrap64 (by omega) (by omega)];omega
 refine Q6 Qi 200 func320 rfl ntmps320 results320 rfl λbase w pl hb=>?_;have Qg:=Qc ho;simp only[go_sem,Qa,ho,Qg,e0];refine Jg (λk st=>∃d':Array Int,d'.size=d.size/\Sort.insOuter Qv a b (a+1+k) d'=Sort.insertionSort Qv d a b/\a+1+k<=b+1/\st=⟨[(0,.ref lo g 0 d.size),(1,Qb a),(2,Qb b),(6,Qb (a+1+k:Nat))],h.set lo (Zs g d')⟩) d.size (s0:=⟨[(0,.ref lo g 0 d.size),(1,Qb a),(2,Qb b),(6,Qb (a+1+0:Nat))],h.set lo (Zs g d)⟩) ?_ ⟨d,rfl,rfl,by omega,rfl⟩ ?_
 ·rw[xD ho];exact QQ
 rintro k _ hk ⟨d',hs,hd,hi,rfl⟩;have hl:=wy (g:=g) (d:=d') Qg;by_cases c:a+1+k<b
 ·have c1:decide (a+1+k<b)=true:=Q5 c;refine Qe hb ?_;simp only[go_sem,Qa,hl,c1];refine Jg (λm st=>∃(d1:Array Int) (j:Nat),d1.size=d.size/\j+m=a+1+k/\Sort.insInner Qv a j d1=Sort.insInner Qv a (a+1+k) d'/\a<=j/\st=⟨[(0,.ref lo g 0 d.size),(1,Qb a),(2,Qb b),(6,Qb (a+1+k:Nat)),(7,Qb j)],h.set lo (Zs g d1)⟩) (a+1+k) (s0:=⟨[(0,.ref lo g 0 d.size),(1,Qb a),(2,Qb b),(6,Qb (a+1+k:Nat)),(7,Qb (a+1+k:Nat))],h.set lo (Zs g d')⟩) QQ ⟨d',_,hs,rfl,rfl,KZ (Nat.le_succ a) (Nat.le_add_right _ _),rfl⟩ ?_;rintro m _ hm ⟨d1,j,Jd,hj,zy,haj,rfl⟩;have ZB:=wy (g:=g) (d:=d1) Qg;generalize hH:h.set lo (Zs g d1)=H at ZB;have Vc:=Qc ZB;by_cases c2:a<j
  ·have c3:decide (a<j)=true:=Q5 c2;have v1:IntKind.i64.wrap ((j:Int) - 1)=((j - 1:Nat):Int):=by rw[wrap64 (by omega) (by omega)];omega
   have p1:j<d.size:=by omega
   have p2:j - 1<d.size:=by omega
   refine Qe hb ?_;simp only[go_sem,Qa,ZB,Vc,c3,v1];apply QH hb [0,1,2,3,4,5,6,7,8,9,10,11,12,1013,14];simp only[go_sem,Qa,ZB,Vc,c3,v1,p1,p2,Jd];refine VX hb kQ (xC d1[j]! d1[j - 1]!) (Qn.flat rfl) λd h hR=>?_;obtain⟨rfl,rfl⟩:=hR;apply WW hb;have un:Sort.insInner Qv a j d1=if Qv d1[j]! d1[j - 1]! then Sort.insInner Qv a (j - 1) (Sort.swp d1 j (j - 1)) else d1:=by
    obtain⟨j',rfl⟩:∃j',j=j'+1:=⟨j - 1,by omega⟩;rw[Sort.insInner];simp[show j'+1 > a from c2]
   cases mP:Qv d1[j]! d1[j - 1]!
   ·rw[mP,Qd (by decide)]at un;simp only[go_sem,mP];apply QC hb;have v2:IntKind.i64.wrap (((a+1+k:Nat):Int)+1)=((a+1+(k+1):Nat):Int):=by rw[wrap64 (by omega) (by omega)];omega
    rw[v2];have KN:Sort.insOuter Qv a b (a+1+(k+1)) d1=Sort.insertionSort Qv d a b:=by
     rw[<- hd]
     conv=>rhs;rw[Sort.insOuter,Qf c]
     rw[<- zy,un];rfl
    refine⟨by omega,_,?_,d1,Jd,KN,by omega,rfl⟩;rw[<- hH];exact QQ
   ·rw[mP,Qf rfl]at un;simp only[go_sem,mP];refine GO (⟨[(0,.ref lo g 0 d.size),(1,Qb a),(2,Qb b),(6,Qb (a+1+k:Nat)),(7,Qb j)],h.set lo (Zs g (Sort.swp d1 j (j - 1)))⟩) Qi hb mixed [(0,true),(1,true),(2,true),(3,true),(5,true),(6,true),(7,true),(8,true),(9,true),(10,true),(11,true),(12,true),(13,true),(14,true)] [4,15,16,17] (by kernel_rfl) (by kernel_rfl) (λs hw=>DB hw rfl ?_) ?_
    rotate_left
    ·simp only[go_sem,Qa,ZB,Vc,c3,v1,p1,p2,Jd,Qs Vc,JS,vj];rw[vk g d1 _ _ _ Jd p1 p2,<- hH,JS]
     repeat' refine And.intro ?_ ?_
     all_goals exact QQ
    refine Qe hb ?_;simp only[go_sem,v1];refine⟨by omega,_,?_,Sort.swp d1 j (j - 1),j - 1,by rw[swp_size,Jd],by omega,by rw[<- un,zy],by omega,rfl⟩;exact QQ
  ·have c3:decide (a<j)=false:=QN c2;have un:Sort.insInner Qv a j d1=d1:=by
    cases j with
    | zero=>rfl
    | succ j'=>rw[Sort.insInner];simp[show ¬ j'+1 > a from c2]
   refine Qe hb ?_;simp only[go_sem,Qa,ZB,Vc,c3];apply QH hb [0,1,2,3,4,5,6,7,8,9,10,11,12,1013,14];simp only[go_sem,Qa,ZB,Vc,c3,Jd];apply QC hb;have v2:IntKind.i64.wrap (((a+1+k:Nat):Int)+1)=((a+1+(k+1):Nat):Int):=by rw[wrap64 (by omega) (by omega)];omega
   rw[v2];have KN:Sort.insOuter Qv a b (a+1+(k+1)) d1=Sort.insertionSort Qv d a b:=by
    rw[<- hd]
    conv=>rhs;rw[Sort.insOuter,Qf c]
    rw[<- zy,un];rfl
   refine⟨by omega,_,?_,d1,Jd,KN,by omega,rfl⟩;rw[<- hH];exact QQ
 ·have c1:decide (a+1+k<b)=false:=QN c;rw[Sort.insOuter,Qd c]at hd;refine Qe hb ?_;simp only[go_sem,Qa,hl,c1];exact congrArg (λx=>h.set lo (Zs g x)) hd
end
def QaH(hi first):∀(n root:Nat) (d:Array Int),hi - root<=n->(Sort.siftDown Qv hi first root d).size=d.size
 | n,root,d,hn=>by
  rw[Sort.siftDown];split
  ·rfl
  ·rename_i h1;split
   ·split
    ·rfl
    ·split
     ·obtain⟨n',rfl⟩:∃n',n=n'+1:=⟨n - 1,by omega⟩;rw[QaH hi first n' _ _ (by omega),swp_size]
     ·rfl
   ·split
    ·rfl
    ·obtain⟨n',rfl⟩:∃n',n=n'+1:=⟨n - 1,by omega⟩;rw[QaH hi first n' _ _ (by omega),swp_size]
section
variable {h:List Ob}{lo g:Nat}{d:Array Int}(ho:h[lo]? = some (Zs g d))
include ho
theorem Qkb(hi first root)(ZG:first+hi<=d.size)(CT:root<=d.size)(hz:d.size<1000000000):
  QK prog 332 h [.ref lo g 0 d.size,Qb root,Qb hi,Qb first] (λdd h'=>dd=.tup []/\h'=h.set lo (Zs g (Sort.siftDown Qv hi first root d))):=by
 refine Q6 Qi 200 func332 rfl ntmps332 results332 rfl λbase w pl hb=>?_;have Qg:=Qc ho;simp only[go_sem,Qa,ho,Qg];refine Jg (λm st=>∃(d1:Array Int) (r:Nat),d1.size=d.size/\m<=r/\r<=d.size/\Sort.siftDown Qv hi first r d1=Sort.siftDown Qv hi first root d/\st=⟨[(0,.ref lo g 0 d.size),(2,Qb hi),(3,Qb first),(8,Qb r)],h.set lo (Zs g d1)⟩) (d.size) (s0:=⟨[(0,.ref lo g 0 d.size),(2,Qb hi),(3,Qb first),(8,Qb root)],h.set lo (Zs g d)⟩) ?_ ⟨d,root,rfl,Z7 _,CT,rfl,rfl⟩ ?_
 ·rw[xD ho];exact QQ
 rintro m _ hm ⟨d1,r,Jd,H9,qs,zP,rfl⟩;have ZB:=wy (g:=g) (d:=d1) Qg;generalize hH:h.set lo (Zs g d1)=H at ZB;have Vc:=Qc ZB;have v1:IntKind.i64.wrap (2*(r:Int))=((2*r:Nat):Int):=by rw[wrap64 (by omega) (by omega)];omega
 have v2:IntKind.i64.wrap (((2*r:Nat):Int)+1)=((2*r+1:Nat):Int):=by rw[wrap64 (by omega) (by omega)];omega
 have v3:IntKind.i64.wrap (((2*r+1:Nat):Int)+1)=((2*r+1+1:Nat):Int):=by rw[wrap64 (by omega) (by omega)];omega
 rw[Sort.siftDown]at zP;by_cases c1:hi<=2*r+1
 ·have e1:decide (hi<=2*r+1)=true:=Q5 c1;rw[dif_pos c1]at zP;refine Qe hb ?_;simp only[go_sem,Qa,ZB,Vc,v1,v2,e1];exact hH.symm.trans (congrArg (λx=>h.set lo (Zs g x)) zP)
 ·have e1:decide (hi<=2*r+1)=false:=QN c1;rw[dif_neg c1]at zP;have p0:first+r<d.size:=by omega
  have p1:first+(2*r+1)<d.size:=by omega
  have w0:IntKind.i64.wrap ((first:Int)+r)=((first+r:Nat):Int):=by rw[wrap64 (by omega) (by omega)];omega
  have w1:IntKind.i64.wrap ((first:Int)+(2*r+1:Nat))=((first+(2*r+1):Nat):Int):=by rw[wrap64 (by omega) (by omega)];omega
  have w2:IntKind.i64.wrap ((first:Int)+(2*r+1+1:Nat))=((first+(2*r+1+1):Nat):Int):=by rw[wrap64 (by omega) (by omega)];omega
  have w3:IntKind.i64.wrap (((first+(2*r+1):Nat):Int)+1)=((first+(2*r+1)+1:Nat):Int):=by rw[wrap64 (by omega) (by omega)];omega
  refine Qe hb ?_;simp only[go_sem,Qa,ZB,Vc,v1,v2,e1];first|refine Yu ?_|skip
  refine Dc [0,2,3,8,9] [(36,QJ (decide (2*r+1+1<hi)&&Qv d1[first+(2*r+1)]! d1[first+(2*r+1)+1]!))] rfl ?_ ?_
  ·by_cases c2:2*r+1+1<hi
   ·have e2:decide (2*r+1+1<hi)=true:=Q5 c2;have p2:first+(2*r+1)+1<d.size:=by omega
    apply QH hb [0,1,2,3,4,5,6,7,8,9,10,11,12,13,14,15,16,17,1018,19];simp only[go_sem,Qa,ZB,Vc,Jd,v3,e2,w1,w3,p1,p2];refine VX hb kQ (xC d1[first+(2*r+1)]! d1[first+(2*r+1)+1]!) (Qn.flat rfl) λd h hR=>?_;obtain⟨rfl,rfl⟩:=hR;apply WW hb;exact QQ
   ·have e2:decide (2*r+1+1<hi)=false:=QN c2;apply QH hb [0,1,2,3,4,5,6,7,8,9,10,11,12,13,14,15,16,17,1018,19];simp only[go_sem,Qa,ZB,Vc,Jd,v3,e2,w1,w3,p1];exact QQ
  ·cases hB:(decide (2*r+1+1<hi)&&Qv d1[first+(2*r+1)]! d1[first+(2*r+1)+1]!)
   ·rw[hB,Qd (by decide)]at zP;refine Qe hb ?_;simp only[go_sem,hB];apply QH hb [0,1,2,3,4,5,6,7,8,9,10,11,1012,13];simp only[go_sem,Qa,ZB,Vc,Jd,w0,w1,p0,p1];refine VX hb kQ (xC d1[first+r]! d1[first+(2*r+1)]!) (Qn.flat rfl) λd h hR=>?_;obtain⟨rfl,rfl⟩:=hR;apply WW hb;cases hq:Qv d1[first+r]! d1[first+(2*r+1)]!
    ·rw[hq,Hx,Qf rfl]at zP;simp only[go_sem,hq];exact hH.symm.trans (congrArg (λx=>h.set lo (Zs g x)) zP)
    ·rw[hq,FI,Qd (by decide)]at zP
     skip
     simp only[go_sem,hq];refine GO (⟨[(0,.ref lo g 0 d.size),(2,Qb hi),(3,Qb first),(9,Qb (2*r+1:Nat))],h.set lo (Zs g (Sort.swp d1 (first+r) (first+(2*r+1))))⟩) Qi hb mixed [(0,true),(1,true),(2,true),(3,true),(4,true),(5,true),(6,true),(8,true),(9,true),(10,true),(11,true),(12,true),(13,true),(14,true),(15,true),(16,true),(17,true),(18,true),(19,true),(20,true)] [7,21,22,23] (by kernel_rfl) (by kernel_rfl) (λs hw=>DB hw rfl ?_) ?_
     rotate_left
     ·simp only[go_sem,Qa,ZB,Vc,w0,w1,p0,p1,Jd,Qs Vc,JS,vj];rw[vk g d1 _ _ _ Jd p0 p1,<- hH,JS]
      repeat' refine And.intro ?_ ?_
      all_goals exact QQ
     apply Zi hb;refine⟨by omega,_,?_,Sort.swp d1 (first+r) (first+(2*r+1)),2*r+1,by rw[swp_size,Jd],by omega,by omega,zP,rfl⟩;exact QQ
   ·have BW:2*r+1+1<hi:=by
     rw[Z9]at hB;exact Wc hB.1
    rw[hB,Qf rfl]at zP;have p2:first+(2*r+1+1)<d.size:=by omega
    refine Qe hb ?_;simp only[go_sem,hB,v3];apply QH hb [0,1,2,3,4,5,6,7,8,9,10,11,1012,13];simp only[go_sem,Qa,ZB,Vc,Jd,w0,w2,p0,p2];refine VX hb kQ (xC d1[first+r]! d1[first+(2*r+1+1)]!) (Qn.flat rfl) λd h hR=>?_;obtain⟨rfl,rfl⟩:=hR;apply WW hb;cases hq:Qv d1[first+r]! d1[first+(2*r+1+1)]!
    ·rw[hq,Hx,Qf rfl]at zP;simp only[go_sem,hq];exact hH.symm.trans (congrArg (λx=>h.set lo (Zs g x)) zP)
    ·rw[hq,FI,Qd (by decide)]at zP;rw[dif_pos (show 2*r+2<hi from BW)]at zP;simp only[go_sem,hq];refine GO (⟨[(0,.ref lo g 0 d.size),(2,Qb hi),(3,Qb first),(9,Qb (2*r+1+1:Nat))],h.set lo (Zs g (Sort.swp d1 (first+r) (first+(2*r+1+1))))⟩) Qi hb mixed [(0,true),(1,true),(2,true),(3,true),(4,true),(5,true),(6,true),(8,true),(9,true),(10,true),(11,true),(12,true),(13,true),(14,true),(15,true),(16,true),(17,true),(18,true),(19,true),(20,true)] [7,21,22,23] (by kernel_rfl) (by kernel_rfl) (λs hw=>DB hw rfl ?_) ?_
     rotate_left
     ·simp only[go_sem,Qa,ZB,Vc,w0,w2,p0,p2,Jd,Qs Vc,JS,vj];rw[vk g d1 _ _ _ Jd p0 p2,<- hH,JS]
      repeat' refine And.intro ?_ ?_
      all_goals exact QQ
     apply Zi hb;refine⟨by omega,_,?_,Sort.swp d1 (first+r) (first+(2*r+1+1)),2*r+1+1,by rw[swp_size,Jd],by omega,by omega,zP,rfl⟩;exact QQ
end
def mQ(hi first root)(d:Array Int):(Sort.siftDown Qv hi first root d).size=d.size:=QaH hi first _ root d (QB _)
def Qkc(hi first):∀(k:Nat) (d:Array Int),(Sort.heapBuild Qv hi first k d).size=d.size
 | 0,d=>rfl
 | k+1,d=>by rw[Sort.heapBuild,Qkc hi first k,mQ]
def Qkd(n:Nat):decide ((0:Int)<=(n:Int))=true:=Q5 (Int.natCast_nonneg n)
section
variable {h:List Ob}{lo g:Nat}{d:Array Int}(ho:h[lo]? = some (Zs g d))
include ho
theorem Qzo(a b)(Vo:a<b)(ZG:b<=d.size)(hz:d.size<1000000000):
  QK prog 321 h [.ref lo g 0 d.size,Qb a,Qb b] (λdd h'=>dd=.tup []/\h'=h.set lo (Zs g (Sort.heapSort Qv d a b))):=by
 have e0:IntKind.i64.wrap ((b:Int) - a)=((b - a:Nat):Int):=by rw[wrap64 (by omega) (by omega)];omega
 have e1:IntKind.i64.wrap (((b - a:Nat):Int) - 1)=((b - a - 1:Nat):Int):=by rw[wrap64 (by omega) (by omega)];omega
 have e2:((b - a - 1:Nat):Int).tdiv 2=(((b - a - 1) / 2:Nat):Int):=rfl;have e3:IntKind.i64.wrap ((((b - a - 1) / 2:Nat):Int))=(((b - a - 1) / 2:Nat):Int):=by rw[wrap64 (by omega) (by omega)]
 have z0:((0:Nat):Int)=0:=rfl;refine Q6 Qi 200 func321 rfl ntmps321 results321 rfl λbase w pl hb=>?_;have Qg:=Qc ho;simp only[go_sem,Qa,ho,Qg,e0,e1,e2,e3];unfold Sort.heapSort;refine Jg (λm st=>∃(d1:Array Int) (k:Nat),d1.size=d.size/\k+m=(b - a - 1) / 2+1/\Sort.heapBuild Qv (b - a) a k d1=Sort.heapBuild Qv (b - a) a ((b - a - 1) / 2+1) d/\st=⟨[(0,.ref lo g 0 d.size),(6,Qb a),(7,Qb 0),(8,Qb (b - a:Nat)),(9,Qb ((k:Int) - 1))],h.set lo (Zs g d1)⟩) ((b - a - 1) / 2+1) (s0:=⟨[(0,.ref lo g 0 d.size),(6,Qb a),(7,Qb 0),(8,Qb (b - a:Nat)),(9,Qb ((((b - a - 1) / 2+1:Nat):Int) - 1))],h.set lo (Zs g d)⟩) ?_ ⟨d,_,rfl,rfl,rfl,rfl⟩ ?_
 ·rw[xD ho,show ((((b - a - 1) / 2+1:Nat):Int) - 1)=(((b - a - 1) / 2:Nat):Int) by omega];exact QQ
 rintro m _ hm ⟨d1,k,Jd,hk,zP,rfl⟩;have ZB:=wy (g:=g) (d:=d1) Qg;rcases k with _|k
 ·rw[Sort.heapBuild]at zP;refine Qe hb ?_;simp only[go_sem,Qa,ZB,show ((0:Nat):Int) - 1=-1 from rfl,show decide ((0:Int)<=-1)=false from rfl,e1];refine Qe hb ?_;simp only[go_sem,Qa,e1];rw[<- zP];refine Jg (λm st=>∃(d2:Array Int) (k:Nat),d2.size=d.size/\k+m=b - a/\Sort.heapPop Qv a k d2=Sort.heapPop Qv a (b - a) d1/\st=⟨[(0,.ref lo g 0 d.size),(6,Qb a),(7,Qb 0),(10,Qb ((k:Int) - 1))],h.set lo (Zs g d2)⟩) (b - a) (s0:=⟨[(0,.ref lo g 0 d.size),(6,Qb a),(7,Qb 0),(10,Qb (((b - a:Nat):Int) - 1))],h.set lo (Zs g d1)⟩) ?_ ⟨d1,_,Jd,rfl,rfl,rfl⟩ ?_
  ·rw[show (((b - a:Nat):Int) - 1)=((b - a - 1:Nat):Int) by omega];exact QQ
  rintro n _ hn ⟨d2,k,JL,Ju,KN,rfl⟩;have Jx:=wy (g:=g) (d:=d2) Qg;generalize hH:h.set lo (Zs g d2)=H at Jx;have QaJ:=Qc Jx;rcases k with _|k
  ·rw[Sort.heapPop]at KN;refine Qe hb ?_;simp only[go_sem,Qa,Jx,show ((0:Nat):Int) - 1=-1 from rfl,show decide ((0:Int)<=-1)=false from rfl];exact hH.symm.trans (congrArg (λx=>h.set lo (Zs g x)) KN)
  ·rw[Sort.heapPop]at KN;have v0:(((k+1:Nat):Int) - 1)=(k:Int):=by omega
   have v1:IntKind.i64.wrap ((a:Int)+k)=((a+k:Nat):Int):=by rw[wrap64 (by omega) (by omega)];omega
   have v2:IntKind.i64.wrap ((k:Int) - 1)=(k:Int) - 1:=wrap64 (by omega) (by omega);have p0:a<d.size:=by omega
   have p1:a+k<d.size:=by omega
   refine Qe hb ?_;simp only[go_sem,Qa,Jx,QaJ,v0,Qkd];refine GO (⟨[(0,.ref lo g 0 d.size),(6,Qb a),(7,Qb 0),(10,Qb k)],h.set lo (Zs g (Sort.swp d2 a (a+k)))⟩) Qi hb mixed [(0,true),(1,true),(2,true),(3,true),(4,true),(6,true),(7,true),(8,true),(9,true),(10,true),(11,true),(12,true),(13,true),(14,true),(15,true),(16,true)] [5,17,18,19] (by kernel_rfl) (by kernel_rfl) (λs hw=>DB hw rfl ?_) ?_
   rotate_left
   ·simp only[go_sem,Qa,Jx,QaJ,v1,p0,p1,JL,Qs QaJ,JS,vj];rw[vk g d2 _ _ _ JL p0 p1,<- hH,JS]
    repeat' refine And.intro ?_ ?_
    all_goals exact QQ
   apply Zi hb;have aD:(Sort.swp d2 a (a+k)).size=d.size:=by rw[swp_size,JL]
   refine VH hb Qik rfl ?_ (aD▸Qkb (wy (g:=g) (d:=Sort.swp d2 a (a+k)) Qg) k a 0 (by omega) (by omega) (by omega)) rfl λd h hR=>?_
   ·simp only[go_sem,JS,v2]
   obtain⟨rfl,rfl⟩:=hR;refine Qe hb ?_;simp only[go_sem,JS,v2];refine⟨by omega,_,?_,Sort.siftDown Qv k a 0 (Sort.swp d2 a (a+k)),k,by rw[mQ,aD],by omega,KN,rfl⟩;exact QQ
 ·rw[Sort.heapBuild]at zP;have v0:(((k+1:Nat):Int) - 1)=(k:Int):=by omega
  have v2:IntKind.i64.wrap ((k:Int) - 1)=(k:Int) - 1:=wrap64 (by omega) (by omega);refine Qe hb ?_;simp only[go_sem,Qa,ZB,v0,Qkd];refine VH hb Qik rfl ?_ (Jd▸Qkb ZB (b - a) a k (by omega) (by omega) (by omega)) rfl λd h hR=>?_
  ·simp only[go_sem,JS,v2]
  obtain⟨rfl,rfl⟩:=hR;refine Qe hb ?_;simp only[go_sem,JS,v2];refine⟨by omega,_,?_,Sort.siftDown Qv (b - a) a k d1,k,by rw[mQ,Jd],by omega,zP,rfl⟩;exact QQ
end
def QaK(p)(d:Array Int)(i j)(hi:0<i):Sort.scanDown p d i j=if i<=j&&p d[j]! then Sort.scanDown p d i (j - 1) else j:=by
 cases j with
 | zero=>
  rw[Sort.scanDown,Qd];simp;omega
 | succ j=>rw[Sort.scanDown];rfl
def mR(p q:Int->Bool)(hq:∀x,q x=!p x)(d:Array Int)(i j:Nat)(ha:0<i)(Vy:i<=j+1)(h:¬ Sort.scanUp p d j i > Sort.scanDown q d (Sort.scanUp p d j i) j):
  Sort.scanUp p d j i<Sort.scanDown q d (Sort.scanUp p d j i) j:=by
 obtain⟨u1,u2,u3,u4⟩:=Sort.scanUp_spec p d j _ i rfl;obtain⟨v1,v2,v3,v4⟩:=Sort.scanDown_spec q d (Sort.scanUp p d j i) j;rcases Bb (Sort.scanUp p d j i) (Sort.scanDown q d (Sort.scanUp p d j i) j) with h'|h'
 ·exact h'
 ·have e:Sort.scanUp p d j i=Sort.scanDown q d (Sort.scanUp p d j i) j:=by omega
  have f1:=u4 (by omega);have f2:=v4 (by omega) (by omega);rw[hq,<- e,f1]at f2;cases f2
def Qke(a):∀(n i j:Nat) (d:Array Int),j+1 - i<=n->(Sort.partEqLoop Qv a i j d).2.size=d.size
 | n,i,j,d,hn=>by
  rw[Sort.partEqLoop_eq];split
  ·rfl
  ·rename_i h;have:=Sort.partEqLoop_guard Qv a i j d h;obtain⟨n',rfl⟩:∃n',n=n'+1:=⟨n - 1,by omega⟩;rw[Qke a n' _ _ _ (by omega),swp_size]
def Qkf(a):∀(n i j:Nat) (d:Array Int),j+1 - i<=n->(Sort.partLoop Qv a i j d).2.size=d.size
 | n,i,j,d,hn=>by
  rw[Sort.partLoop_eq];split
  ·rfl
  ·rename_i h;have:=Sort.partLoop_guard Qv a i j d h;obtain⟨n',rfl⟩:∃n',n=n'+1:=⟨n - 1,by omega⟩;rw[Qkf a n' _ _ _ (by omega),swp_size]
section
variable {h:List Ob}{lo g:Nat}{d:Array Int}(ho:h[lo]? = some (Zs g d))
include ho
theorem Qzp(a b pv)(Vo:a<b)(ZG:b<=d.size)(hp:a<=pv)(sA:pv<b)(hz:d.size<1000000000):
  QK prog 326 h [.ref lo g 0 d.size,Qb a,Qb b,Qb pv] (λdd h'=>dd=Qb (Sort.partitionEqual Qv d a b pv).1/\h'=h.set lo (Zs g (Sort.partitionEqual Qv d a b pv).2)):=by
 have e0:IntKind.i64.wrap ((a:Int)+1)=((a+1:Nat):Int):=by rw[wrap64 (by omega) (by omega)];omega
 have e1:IntKind.i64.wrap ((b:Int) - 1)=((b - 1:Nat):Int):=by rw[wrap64 (by omega) (by omega)];omega
 have pa:a<d.size:=by omega
 have pp:pv<d.size:=by omega
 have hsd:d.size=d.size:=rfl;refine Q6 Qi 200 func326 rfl ntmps326 results326 rfl λbase w pl hb=>?_;have Qg:=Qc ho;simp only[go_sem,Qa,ho,Qg];apply QH hb [0,1,2,3,4,5,6,7,8,9,10,11,12,1013,14,1015];simp only[go_sem,Qa,ho,Qg,pa,pp,Qs Qg,JS,vj];rw[vk g d _ _ _ rfl pa pp];refine Qe hb ?_;simp only[go_sem,e0,e1];unfold Sort.partitionEqual;refine Jg (λm st=>∃(d1:Array Int) (i j:Nat),d1.size=d.size/\a<i/\i<=j+1/\j<b/\m+(j+1 - i)<=b/\Sort.partEqLoop Qv a i j d1=Sort.partEqLoop Qv a (a+1) (b - 1) (Sort.swp d a pv)/\st=⟨[(0,.ref lo g 0 d.size),(1,Qb a),(9,Qb i),(10,Qb j)],h.set lo (Zs g d1)⟩) b (s0:=⟨[(0,.ref lo g 0 d.size),(1,Qb a),(9,Qb (a+1:Nat)),(10,Qb (b - 1:Nat))],h.set lo (Zs g (Sort.swp d a pv))⟩) QQ ⟨_,a+1,b - 1,swp_size d a pv,by omega,by omega,by omega,by omega,rfl,rfl⟩ ?_;rintro m _ hm ⟨d1,i,j,vm,RJ,Vy,hjb,lz,Zk,rfl⟩;have zQ:=wy (g:=g) (d:=d1) Qg;generalize hH:h.set lo (Zs g d1)=H at zQ;have jx:=Qc zQ;rw[Sort.partEqLoop_eq]at Zk;have NO:=mR (λx=>!Qv d1[a]! x) (λx=>Qv d1[a]! x) (λx=>by simp) d1 i j (by omega) Vy;obtain⟨u1,u2,u3,u4⟩:=Sort.scanUp_spec (λx=>!Qv d1[a]! x) d1 j _ i rfl;have u5:=u2 Vy;generalize zz:Sort.scanUp (λx=>!Qv d1[a]! x) d1 j i=i2 at *;obtain⟨w1,w2,w3,w4⟩:=Sort.scanDown_spec (λx=>Qv d1[a]! x) d1 i2 j;have w5:=w2 u5;generalize Ws:Sort.scanDown (λx=>Qv d1[a]! x) d1 i2 j=j2 at *;apply QC hb;refine Jg (λm st=>∃xa:Nat,xa=i+m/\xa<=j+1/\Sort.scanUp (λx=>!Qv d1[a]! x) d1 j xa=i2/\st=⟨[(0,.ref lo g 0 d.size),(1,Qb a),(9,Qb xa),(10,Qb j)],H⟩) d.size (s0:=⟨[(0,.ref lo g 0 d.size),(1,Qb a),(9,Qb i),(10,Qb j)],H⟩) QQ ⟨i,rfl,by omega,zz,rfl⟩ ?_;rintro ma _ hma ⟨xa,hxa,hya,aE,rfl⟩;have ga:xa<=j->xa<d.size:=by omega
 rw[Sort.scanUp]at aE;refine Qe hb ?_;simp only[go_sem,Qa,zQ,jx];first|refine Yu ?_|skip
 refine Dc [0,1,9,10] [(43,QJ (decide (xa<=j)&&!Qv d1[a]! d1[xa]!))] rfl ?_ ?_
 ·by_cases ca:xa<=j
  ·have ea:decide (xa<=j)=true:=Q5 ca;have g2a:=ga ca;apply QH hb [0,1,2,3,4,5,6,7,8,9,10,11,1012,13,14];simp only[go_sem,Qa,zQ,jx,vm,ea,pa,g2a];refine VX hb kQ (xC d1[a]! d1[xa]!) (Qn.flat rfl) λd h hR=>?_;obtain⟨rfl,rfl⟩:=hR;apply WW hb;exact QQ
  ·have ea:decide (xa<=j)=false:=QN ca;apply QH hb [0,1,2,3,4,5,6,7,8,9,10,11,1012,13,14];simp only[go_sem,Qa,zQ,jx,vm,ea,pa];exact QQ
 cases hB:(decide (xa<=j)&&!Qv d1[a]! d1[xa]!)
 ·rw[hB,Qd (by decide)]at aE;refine Qe hb ?_;simp only[go_sem,Qa,hB];subst aE;apply QC hb;refine Jg (λm st=>∃xb:Nat,xb+m=j/\xa<=xb+1/\Sort.scanDown (λx=>Qv d1[a]! x) d1 xa xb=j2/\st=⟨[(0,.ref lo g 0 d.size),(1,Qb a),(9,Qb xa),(10,Qb xb)],H⟩) d.size (s0:=⟨[(0,.ref lo g 0 d.size),(1,Qb a),(9,Qb xa),(10,Qb j)],H⟩) QQ ⟨j,rfl,by omega,Ws,rfl⟩ ?_;rintro mb _ E8 ⟨xb,Ex,hyb,aF,rfl⟩;have gb:xa<=xb->xb<d.size:=by omega
  rw[QaK _ _ _ _ (by omega)]at aF;refine Qe hb ?_;simp only[go_sem,Qa,zQ,jx];first|refine Yu ?_|skip
  refine Dc [0,1,9,10] [(59,QJ (decide (xa<=xb)&&Qv d1[a]! d1[xb]!))] rfl ?_ ?_
  ·by_cases cb:xa<=xb
   ·have eb:decide (xa<=xb)=true:=Q5 cb;have g2b:=gb cb;apply QH hb [0,1,2,3,4,5,6,7,8,9,10,11,1012,13];simp only[go_sem,Qa,zQ,jx,vm,eb,pa,g2b];refine VX hb kQ (xC d1[a]! d1[xb]!) (Qn.flat rfl) λd h hR=>?_;obtain⟨rfl,rfl⟩:=hR;apply WW hb;exact QQ
   ·have eb:decide (xa<=xb)=false:=QN cb;apply QH hb [0,1,2,3,4,5,6,7,8,9,10,11,1012,13];simp only[go_sem,Qa,zQ,jx,vm,eb,pa];exact QQ
  cases hB:(decide (xa<=xb)&&Qv d1[a]! d1[xb]!)
  ·rw[hB,Qd (by decide)]at aF;refine Qe hb ?_;simp only[go_sem,Qa,hB];have E9:IntKind.i64.wrap ((xa:Int)+1)=((xa+1:Nat):Int):=by rw[wrap64 (by omega) (by omega)];omega
   subst aF;by_cases cg:xb<xa
   ·have eg:decide (xb<xa)=true:=Q5 cg;rw[Qf cg]at Zk;refine Qe hb ?_;simp only[go_sem,Qa,eg];apply QC hb;rw[<- Zk,<- hH];first|exact⟨rfl,rfl⟩|rfl
   ·have eg:decide (xb<xa)=false:=QN cg;have clt:=NO cg;have px:xa<d.size:=by omega
    have py:xb<d.size:=by omega
    have aG:IntKind.i64.wrap ((xb:Int) - 1)=((xb - 1:Nat):Int):=by rw[wrap64 (by omega) (by omega)];omega
    rw[Qd cg]at Zk;refine Qe hb ?_;simp only[go_sem,Qa,eg];apply QH hb [0,1,2,3,4,5,6,7,8,9,10,11,12,1013,14,1015];simp only[go_sem,Qa,zQ,jx,vm,px,py,Qs jx,JS,vj,E9,aG];rw[vk g d1 _ _ _ vm px py];refine⟨by omega,_,?_,Sort.swp d1 xa xb,xa+1,xb - 1,by rw[swp_size,vm],by omega,by omega,by omega,by omega,Zk,rfl⟩;rw[<- hH,JS];exact QQ
  ·rw[hB,Qf rfl]at aF;have lqb:xa<=xb:=by
    rw[Z9]at hB;exact Wc hB.1
   have vb:IntKind.i64.wrap ((xb:Int) - 1)=((xb - 1:Nat):Int):=by rw[wrap64 (by omega) (by omega)];omega
   refine Qe hb ?_;simp only[go_sem,Qa,hB,vb];refine⟨by omega,_,?_,xb - 1,by omega,by omega,aF,rfl⟩;exact QQ
 ·rw[hB,Qf rfl]at aE;have lqa:xa<=j:=by
   rw[Z9]at hB;exact Wc hB.1
  have va:IntKind.i64.wrap ((xa:Int)+1)=((xa+1:Nat):Int):=by rw[wrap64 (by omega) (by omega)];omega
  refine Qe hb ?_;simp only[go_sem,Qa,hB,va];refine⟨by omega,_,?_,xa+1,by omega,by omega,aE,rfl⟩;exact QQ
omit ho in
theorem Qzu(d)(a b pv):Sort.partition Qv d a b pv =
  if Sort.scanUp (λx=>Qv x (Sort.swp d a pv)[a]!) (Sort.swp d a pv) (b - 1) (a+1) > Sort.scanDown (λx=>!Qv x (Sort.swp d a pv)[a]!) (Sort.swp d a pv) (Sort.scanUp (λx=>Qv x (Sort.swp d a pv)[a]!) (Sort.swp d a pv) (b - 1) (a+1)) (b - 1) then
   (Sort.scanDown (λx=>!Qv x (Sort.swp d a pv)[a]!) (Sort.swp d a pv) (Sort.scanUp (λx=>Qv x (Sort.swp d a pv)[a]!) (Sort.swp d a pv) (b - 1) (a+1)) (b - 1),true,Sort.swp (Sort.swp d a pv) (Sort.scanDown (λx=>!Qv x (Sort.swp d a pv)[a]!) (Sort.swp d a pv) (Sort.scanUp (λx=>Qv x (Sort.swp d a pv)[a]!) (Sort.swp d a pv) (b - 1) (a+1)) (b - 1)) a)
  else ((Sort.partLoop Qv a (Sort.scanUp (λx=>Qv x (Sort.swp d a pv)[a]!) (Sort.swp d a pv) (b - 1) (a+1)+1) (Sort.scanDown (λx=>!Qv x (Sort.swp d a pv)[a]!) (Sort.swp d a pv) (Sort.scanUp (λx=>Qv x (Sort.swp d a pv)[a]!) (Sort.swp d a pv) (b - 1) (a+1)) (b - 1) - 1) (Sort.swp (Sort.swp d a pv) (Sort.scanUp (λx=>Qv x (Sort.swp d a pv)[a]!) (Sort.swp d a pv) (b - 1) (a+1)) (Sort.scanDown (λx=>!Qv x (Sort.swp d a pv)[a]!) (Sort.swp d a pv) (Sort.scanUp (λx=>Qv x (Sort.swp d a pv)[a]!) (Sort.swp d a pv) (b - 1) (a+1)) (b - 1)))).1,false,
   Sort.swp (Sort.partLoop Qv a (Sort.scanUp (λx=>Qv x (Sort.swp d a pv)[a]!) (Sort.swp d a pv) (b - 1) (a+1)+1) (Sort.scanDown (λx=>!Qv x (Sort.swp d a pv)[a]!) (Sort.swp d a pv) (Sort.scanUp (λx=>Qv x (Sort.swp d a pv)[a]!) (Sort.swp d a pv) (b - 1) (a+1)) (b - 1) - 1) (Sort.swp (Sort.swp d a pv) (Sort.scanUp (λx=>Qv x (Sort.swp d a pv)[a]!) (Sort.swp d a pv) (b - 1) (a+1)) (Sort.scanDown (λx=>!Qv x (Sort.swp d a pv)[a]!) (Sort.swp d a pv) (Sort.scanUp (λx=>Qv x (Sort.swp d a pv)[a]!) (Sort.swp d a pv) (b - 1) (a+1)) (b - 1)))).2
    (Sort.partLoop Qv a (Sort.scanUp (λx=>Qv x (Sort.swp d a pv)[a]!) (Sort.swp d a pv) (b - 1) (a+1)+1) (Sort.scanDown (λx=>!Qv x (Sort.swp d a pv)[a]!) (Sort.swp d a pv) (Sort.scanUp (λx=>Qv x (Sort.swp d a pv)[a]!) (Sort.swp d a pv) (b - 1) (a+1)) (b - 1) - 1) (Sort.swp (Sort.swp d a pv) (Sort.scanUp (λx=>Qv x (Sort.swp d a pv)[a]!) (Sort.swp d a pv) (b - 1) (a+1)) (Sort.scanDown (λx=>!Qv x (Sort.swp d a pv)[a]!) (Sort.swp d a pv) (Sort.scanUp (λx=>Qv x (Sort.swp d a pv)[a]!) (Sort.swp d a pv) (b - 1) (a+1)) (b - 1)))).1 a):=rfl
theorem Qzv(a b pv)(Vo:a+1<b)(ZG:b<=d.size)(hp:a<=pv)(sA:pv<b)(hz:d.size<1000000000):
  QK prog 327 h [.ref lo g 0 d.size,Qb a,Qb b,Qb pv] (λdd h'=>dd=.tup [Qb (Sort.partition Qv d a b pv).1,QJ (Sort.partition Qv d a b pv).2.1]/\h'=h.set lo (Zs g (Sort.partition Qv d a b pv).2.2)):=by
 have e0:IntKind.i64.wrap ((a:Int)+1)=((a+1:Nat):Int):=by rw[wrap64 (by omega) (by omega)];omega
 have e1:IntKind.i64.wrap ((b:Int) - 1)=((b - 1:Nat):Int):=by rw[wrap64 (by omega) (by omega)];omega
 have pa:a<d.size:=by omega
 have pp:pv<d.size:=by omega
 refine Q6 Qi 200 func327 rfl ntmps327 results327 rfl λbase w pl hb=>?_;have Qg:=Qc ho;simp only[go_sem,Qa,ho,Qg];apply QH hb [0,1,2,3,4,5,6,7,8,9,10,11,12,1013,14,1015];simp only[go_sem,Qa,ho,Qg,pa,pp,Qs Qg,JS,vj];rw[vk g d _ _ _ rfl pa pp,Qzu];refine Qe hb ?_;simp only[go_sem,e0,e1];generalize hdk:Sort.swp d a pv=dk at *;have GS:dk.size=d.size:=by rw[<- hdk,swp_size]
 have Fa:=wy (g:=g) (d:=dk) Qg;generalize Dd:h.set lo (Zs g dk)=Hk at Fa;have Fb:=Qc Fa;have Qzx:=mR (λx=>Qv x dk[a]!) (λx=>!Qv x dk[a]!) (λx=>rfl) dk (a+1) (b - 1) (by omega) (by omega);obtain⟨t1,t2,t3,t4⟩:=Sort.scanUp_spec (λx=>Qv x dk[a]!) dk (b - 1) _ (a+1) rfl;have t5:=t2 (by omega);generalize zz:Sort.scanUp (λx=>Qv x dk[a]!) dk (b - 1) (a+1)=i2 at *;obtain⟨s1,s2,s3,s4⟩:=Sort.scanDown_spec (λx=>!Qv x dk[a]!) dk i2 (b - 1);have s5:=s2 t5;generalize Ws:Sort.scanDown (λx=>!Qv x dk[a]!) dk i2 (b - 1)=j2 at *;generalize hI0:a+1=I0 at *;generalize hJ0:b - 1=J0 at *;rw[show h.set lo (⟨.arr,g,1,dk.size,DC dk⟩:Ob)=Hk from Dd];refine Jg (λm st=>∃xe:Nat,xe=I0+m/\xe<=J0+1/\Sort.scanUp (λx=>Qv x dk[a]!) dk J0 xe=i2/\st=⟨[(0,.ref lo g 0 d.size),(1,Qb a),(10,Qb xe),(11,Qb J0)],Hk⟩) d.size (s0:=⟨[(0,.ref lo g 0 d.size),(1,Qb a),(10,Qb I0),(11,Qb J0)],Hk⟩) QQ ⟨I0,rfl,by omega,zz,rfl⟩ ?_;rintro me _ hme ⟨xe,hxe,WO,aH,rfl⟩;have ge:xe<=J0->xe<d.size:=by omega
 rw[Sort.scanUp]at aH;refine Qe hb ?_;simp only[go_sem,Qa,Fa,Fb];first|refine Yu ?_|skip
 refine Dc [0,1,10,11] [(43,QJ (decide (xe<=J0)&&Qv dk[xe]! dk[a]!))] rfl ?_ ?_
 ·by_cases ce:xe<=J0
  ·have ee:decide (xe<=J0)=true:=Q5 ce;have g2e:=ge ce;apply QH hb [0,1,2,3,4,5,6,7,8,9,10,11,1012,13];simp only[go_sem,Qa,Fa,Fb,GS,ee,pa,g2e];refine VX hb kQ (xC dk[xe]! dk[a]!) (Qn.flat rfl) λd h hR=>?_;obtain⟨rfl,rfl⟩:=hR;apply WW hb;exact QQ
  ·have ee:decide (xe<=J0)=false:=QN ce;apply QH hb [0,1,2,3,4,5,6,7,8,9,10,11,1012,13];simp only[go_sem,Qa,Fa,Fb,GS,ee,pa];exact QQ
 cases hB:(decide (xe<=J0)&&Qv dk[xe]! dk[a]!)
 ·rw[hB,Qd (by decide)]at aH;refine Qe hb ?_;simp only[go_sem,Qa,hB];subst aH;apply QC hb;refine Jg (λm st=>∃xf:Nat,xf+m=J0/\xe<=xf+1/\Sort.scanDown (λx=>!Qv x dk[a]!) dk xe xf=j2/\st=⟨[(0,.ref lo g 0 d.size),(1,Qb a),(10,Qb xe),(11,Qb xf)],Hk⟩) d.size (s0:=⟨[(0,.ref lo g 0 d.size),(1,Qb a),(10,Qb xe),(11,Qb J0)],Hk⟩) QQ ⟨J0,rfl,by omega,Ws,rfl⟩ ?_;rintro mf _ hmf ⟨xf,hxf,hyf,aI,rfl⟩;have gf:xe<=xf->xf<d.size:=by omega
  rw[QaK _ _ _ _ (by omega)]at aI;refine Qe hb ?_;simp only[go_sem,Qa,Fa,Fb];first|refine Yu ?_|skip
  refine Dc [0,1,10,11] [(60,QJ (decide (xe<=xf)&&!Qv dk[xf]! dk[a]!))] rfl ?_ ?_
  ·by_cases cf:xe<=xf
   ·have ef:decide (xe<=xf)=true:=Q5 cf;have g2f:=gf cf;apply QH hb [0,1,2,3,4,5,6,7,8,9,10,11,1012,13,14];simp only[go_sem,Qa,Fa,Fb,GS,ef,pa,g2f];refine VX hb kQ (xC dk[xf]! dk[a]!) (Qn.flat rfl) λd h hR=>?_;obtain⟨rfl,rfl⟩:=hR;apply WW hb;exact QQ
   ·have ef:decide (xe<=xf)=false:=QN cf;apply QH hb [0,1,2,3,4,5,6,7,8,9,10,11,1012,13,14];simp only[go_sem,Qa,Fa,Fb,GS,ef,pa];exact QQ
  cases hB:(decide (xe<=xf)&&!Qv dk[xf]! dk[a]!)
  ·rw[hB,Qd (by decide)]at aI;refine Qe hb ?_;simp only[go_sem,Qa,hB];subst aI;have vz1:IntKind.i64.wrap ((xe:Int)+1)=((xe+1:Nat):Int):=by rw[wrap64 (by omega) (by omega)];omega
   by_cases cg:xf<xe
   ·have eg:decide (xf<xe)=true:=Q5 cg;rw[Qf cg];refine Qe hb ?_;simp only[go_sem,Qa,eg];have py:xf<d.size:=by omega
    apply QH hb [0,1,2,3,4,5,6,7,8,9,10,11,12,1013,14,1015];simp only[go_sem,Qa,Fa,Fb,GS,py,pa,Qs Fb,JS,vj];rw[vk g dk _ _ _ GS py pa];rw[<- Dd,JS];first|exact⟨rfl,rfl⟩|rfl
   ·have eg:decide (xf<xe)=false:=QN cg;have clt:=Qzx cg;have px:xe<d.size:=by omega
    have py:xf<d.size:=by omega
    have vz2:IntKind.i64.wrap ((xf:Int) - 1)=((xf - 1:Nat):Int):=by rw[wrap64 (by omega) (by omega)];omega
    rw[Qd cg];refine Qe hb ?_;simp only[go_sem,Qa,eg];apply QH hb [0,1,2,3,4,5,6,7,8,9,10,11,12,1013,14,1015];simp only[go_sem,Qa,Fa,Fb,GS,px,py,Qs Fb,JS,vj,vz1,vz2];rw[vk g dk _ _ _ GS px py,<- Dd,JS];refine Jg (λm st=>∃(d1:Array Int) (i j:Nat),d1.size=d.size/\a<i/\i<=j+1/\j<b/\m+(j+1 - i)<=b/\Sort.partLoop Qv a i j d1=Sort.partLoop Qv a (xe+1) (xf - 1) (Sort.swp dk xe xf)/\st=⟨[(0,.ref lo g 0 d.size),(1,Qb a),(10,Qb i),(11,Qb j)],h.set lo (Zs g d1)⟩) b (s0:=⟨[(0,.ref lo g 0 d.size),(1,Qb a),(10,Qb (xe+1:Nat)),(11,Qb (xf - 1:Nat))],h.set lo (Zs g (Sort.swp dk xe xf))⟩) QQ ⟨_,xe+1,xf - 1,by rw[swp_size,GS],by omega,by omega,by omega,by omega,rfl,rfl⟩ ?_;rintro m _ hm ⟨d1,i,j,vm,RJ,Vy,hjb,lz,Zk,rfl⟩;have zQ:=wy (g:=g) (d:=d1) Qg;generalize hH:h.set lo (Zs g d1)=H at zQ;have jx:=Qc zQ;rw[Sort.partLoop_eq]at Zk;have NO:=mR (λx=>Qv x d1[a]!) (λx=>!Qv x d1[a]!) (λx=>rfl) d1 i j (by omega) Vy;obtain⟨u1,u2,u3,u4⟩:=Sort.scanUp_spec (λx=>Qv x d1[a]!) d1 j _ i rfl;have u5:=u2 Vy;generalize zz:Sort.scanUp (λx=>Qv x d1[a]!) d1 j i=i2 at *;obtain⟨w1,w2,w3,w4⟩:=Sort.scanDown_spec (λx=>!Qv x d1[a]!) d1 i2 j;have w5:=w2 u5;generalize Ws:Sort.scanDown (λx=>!Qv x d1[a]!) d1 i2 j=j2 at *;apply QC hb;refine Jg (λm st=>∃xc:Nat,xc=i+m/\xc<=j+1/\Sort.scanUp (λx=>Qv x d1[a]!) d1 j xc=i2/\st=⟨[(0,.ref lo g 0 d.size),(1,Qb a),(10,Qb xc),(11,Qb j)],H⟩) d.size (s0:=⟨[(0,.ref lo g 0 d.size),(1,Qb a),(10,Qb i),(11,Qb j)],H⟩) QQ ⟨i,rfl,by omega,zz,rfl⟩ ?_;rintro mc _ AF ⟨xc,lD,hyc,F1,rfl⟩;have gc:xc<=j->xc<d.size:=by omega
    rw[Sort.scanUp]at F1;refine Qe hb ?_;simp only[go_sem,Qa,zQ,jx];first|refine Yu ?_|skip
    refine Dc [0,1,10,11] [(112,QJ (decide (xc<=j)&&Qv d1[xc]! d1[a]!))] rfl ?_ ?_
    ·by_cases cc:xc<=j
     ·have ec:decide (xc<=j)=true:=Q5 cc;have g2c:=gc cc;apply QH hb [0,1,2,3,4,5,6,7,8,9,10,11,1012,13];simp only[go_sem,Qa,zQ,jx,vm,ec,pa,g2c];refine VX hb kQ (xC d1[xc]! d1[a]!) (Qn.flat rfl) λd h hR=>?_;obtain⟨rfl,rfl⟩:=hR;apply WW hb;exact QQ
     ·have ec:decide (xc<=j)=false:=QN cc;apply QH hb [0,1,2,3,4,5,6,7,8,9,10,11,1012,13];simp only[go_sem,Qa,zQ,jx,vm,ec,pa];exact QQ
    cases hB:(decide (xc<=j)&&Qv d1[xc]! d1[a]!)
    ·rw[hB,Qd (by decide)]at F1;refine Qe hb ?_;simp only[go_sem,Qa,hB];subst F1;apply QC hb;refine Jg (λm st=>∃xd:Nat,xd+m=j/\xc<=xd+1/\Sort.scanDown (λx=>!Qv x d1[a]!) d1 xc xd=j2/\st=⟨[(0,.ref lo g 0 d.size),(1,Qb a),(10,Qb xc),(11,Qb xd)],H⟩) d.size (s0:=⟨[(0,.ref lo g 0 d.size),(1,Qb a),(10,Qb xc),(11,Qb j)],H⟩) QQ ⟨j,rfl,by omega,Ws,rfl⟩ ?_;rintro md _ mS ⟨xd,hxd,aJ,aK,rfl⟩;have gd:xc<=xd->xd<d.size:=by omega
     rw[QaK _ _ _ _ (by omega)]at aK;refine Qe hb ?_;simp only[go_sem,Qa,zQ,jx];first|refine Yu ?_|skip
     refine Dc [0,1,10,11] [(129,QJ (decide (xc<=xd)&&!Qv d1[xd]! d1[a]!))] rfl ?_ ?_
     ·by_cases cd:xc<=xd
      ·have ed:decide (xc<=xd)=true:=Q5 cd;have g2d:=gd cd;apply QH hb [0,1,2,3,4,5,6,7,8,9,10,11,1012,13,14];simp only[go_sem,Qa,zQ,jx,vm,ed,pa,g2d];refine VX hb kQ (xC d1[xd]! d1[a]!) (Qn.flat rfl) λd h hR=>?_;obtain⟨rfl,rfl⟩:=hR;apply WW hb;exact QQ
      ·have ed:decide (xc<=xd)=false:=QN cd;apply QH hb [0,1,2,3,4,5,6,7,8,9,10,11,1012,13,14];simp only[go_sem,Qa,zQ,jx,vm,ed,pa];exact QQ
     cases hB:(decide (xc<=xd)&&!Qv d1[xd]! d1[a]!)
     ·rw[hB,Qd (by decide)]at aK;refine Qe hb ?_;simp only[go_sem,Qa,hB];have E9:IntKind.i64.wrap ((xc:Int)+1)=((xc+1:Nat):Int):=by rw[wrap64 (by omega) (by omega)];omega
      subst aK;by_cases cg:xd<xc
      ·have eg:decide (xd<xc)=true:=Q5 cg;rw[Qf cg]at Zk;refine Qe hb ?_;simp only[go_sem,Qa,eg];apply QC hb;have py:xd<d.size:=by omega
       apply QH hb [0,1,2,3,4,5,6,7,8,9,10,11,12,1013,14,1015];simp only[go_sem,Qa,zQ,jx,vm,py,pa,Qs jx,JS,vj];rw[vk g d1 _ _ _ vm py pa];rw[<- Zk,<- hH,JS];first|exact⟨rfl,rfl⟩|rfl
      ·have eg:decide (xd<xc)=false:=QN cg;have clt:=NO cg;have px:xc<d.size:=by omega
       have py:xd<d.size:=by omega
       have aG:IntKind.i64.wrap ((xd:Int) - 1)=((xd - 1:Nat):Int):=by rw[wrap64 (by omega) (by omega)];omega
       rw[Qd cg]at Zk;refine Qe hb ?_;simp only[go_sem,Qa,eg];apply QH hb [0,1,2,3,4,5,6,7,8,9,10,11,12,1013,14,1015];simp only[go_sem,Qa,zQ,jx,vm,px,py,Qs jx,JS,vj,E9,aG];rw[vk g d1 _ _ _ vm px py];refine⟨by omega,_,?_,Sort.swp d1 xc xd,xc+1,xd - 1,by rw[swp_size,vm],by omega,by omega,by omega,by omega,Zk,rfl⟩;rw[<- hH,JS];exact QQ
     ·rw[hB,Qf rfl]at aK;have lqd:xc<=xd:=by
       rw[Z9]at hB;exact Wc hB.1
      have vd:IntKind.i64.wrap ((xd:Int) - 1)=((xd - 1:Nat):Int):=by rw[wrap64 (by omega) (by omega)];omega
      refine Qe hb ?_;simp only[go_sem,Qa,hB,vd];refine⟨by omega,_,?_,xd - 1,by omega,by omega,aK,rfl⟩;exact QQ
    ·rw[hB,Qf rfl]at F1;have lqc:xc<=j:=by
      rw[Z9]at hB;exact Wc hB.1
     have vc:IntKind.i64.wrap ((xc:Int)+1)=((xc+1:Nat):Int):=by rw[wrap64 (by omega) (by omega)];omega
     refine Qe hb ?_;simp only[go_sem,Qa,hB,vc];refine⟨by omega,_,?_,xc+1,by omega,by omega,F1,rfl⟩;exact QQ
  ·rw[hB,Qf rfl]at aI;have lqf:xe<=xf:=by
    rw[Z9]at hB;exact Wc hB.1
   have vf:IntKind.i64.wrap ((xf:Int) - 1)=((xf - 1:Nat):Int):=by rw[wrap64 (by omega) (by omega)];omega
   refine Qe hb ?_;simp only[go_sem,Qa,hB,vf];refine⟨by omega,_,?_,xf - 1,by omega,by omega,aI,rfl⟩;exact QQ
 ·rw[hB,Qf rfl]at aH;have lqe:xe<=J0:=by
   rw[Z9]at hB;exact Wc hB.1
  have ve:IntKind.i64.wrap ((xe:Int)+1)=((xe+1:Nat):Int):=by rw[wrap64 (by omega) (by omega)];omega
  refine Qe hb ?_;simp only[go_sem,Qa,hB,ve];refine⟨by omega,_,?_,xe+1,by omega,by omega,aH,rfl⟩;exact QQ
end
def QaM:∀(j:Nat) (d:Array Int),(Sort.shiftDown Qv j d).size=d.size
 | 0,d=>rfl
 | j+1,d=>by rw[Sort.shiftDown];split;rfl;rw[QaM j,swp_size]
def Qkh(b):∀(n j:Nat) (d:Array Int),b - j<=n->(Sort.shiftUp Qv b j d).size=d.size
 | n,j,d,hn=>by
  rw[Sort.shiftUp];split
  ·split
   ·rfl
   ·obtain⟨n',rfl⟩:∃n',n=n'+1:=⟨n - 1,by omega⟩;rw[Qkh b n' _ _ (by omega),swp_size]
  ·rfl
def Qki(d)(b):∀(n i:Nat),b - i<=n->i<=b->i<=Sort.scanSorted Qv d b i/\Sort.scanSorted Qv d b i<=b
 | n,i,hn,hi=>by
  rw[Sort.scanSorted];split
  ·rename_i c;simp at c;obtain⟨n',rfl⟩:∃n',n=n'+1:=⟨n - 1,by omega⟩;have:=Qki d b n' (i+1) (by omega) (by omega);omega
  ·omega
section
variable {h:List Ob}{lo g:Nat}{d:Array Int}(ho:h[lo]? = some (Zs g d))
include ho
theorem QzF(a b)(Vo:a<b)(ZG:b<=d.size)(hz:d.size<1000000000):
  QK prog 325 h [.ref lo g 0 d.size,Qb a,Qb b] (λdd h'=>dd=QJ (Sort.partialInsertionSort Qv d a b).2/\h'=h.set lo (Zs g (Sort.partialInsertionSort Qv d a b).1)):=by
 have e0:IntKind.i64.wrap ((a:Int)+1)=((a+1:Nat):Int):=by rw[wrap64 (by omega) (by omega)];omega
 have eba:IntKind.i64.wrap ((b:Int) - a)=((b - a:Nat):Int):=by rw[wrap64 (by omega) (by omega)];omega
 unfold Sort.partialInsertionSort;refine Q6 Qi 200 func325 rfl ntmps325 results325 rfl λbase w pl hb=>?_;have Qg:=Qc ho;simp only[go_sem,Qa,ho,Qg,e0];refine Jg (λm st=>∃(d1:Array Int) (x:Nat),d1.size=d.size/\a+1<=x/\x<=b/\m<=5/\Sort.partialIns Qv a b (5 - m) x d1=Sort.partialIns Qv a b 5 (a+1) d/\st=⟨[(0,.ref lo g 0 d.size),(1,Qb a),(2,Qb b),(7,Qb x),(8,Qb m)],h.set lo (Zs g d1)⟩) 5 (s0:=⟨[(0,.ref lo g 0 d.size),(1,Qb a),(2,Qb b),(7,Qb (a+1:Nat)),(8,Qb 0)],h.set lo (Zs g d)⟩) ?_ ⟨d,a+1,rfl,by omega,by omega,by omega,rfl,rfl⟩ ?_
 ·rw[xD ho];exact QQ
 rintro m _ hm ⟨d1,i,Jd,RJ,hib,hm5,Yz,rfl⟩;have ZB:=wy (g:=g) (d:=d1) Qg;generalize hH:h.set lo (Zs g d1)=H at ZB;have Vc:=Qc ZB;by_cases cm:m<5
 ·have em:decide ((m:Int)<5)=true:=Q5 (by omega);obtain⟨sq,mT⟩:∃s,5 - m=s+1:=⟨5 - m - 1,by omega⟩;have QaN:4 - m=sq:=by omega
  rw[mT,Sort.partialIns]at Yz;dsimp only at Yz;obtain⟨k1,k2⟩:=Qki d1 b _ i (QB _) hib;generalize hK:Sort.scanSorted Qv d1 b i=K at *;refine Qe hb ?_;simp only[go_sem,Qa,ZB,Vc,em];refine Jg (λn st=>∃x:Nat,x=i+n/\x<=b/\Sort.scanSorted Qv d1 b x=K/\st=⟨[(0,.ref lo g 0 d.size),(1,Qb a),(2,Qb b),(7,Qb x),(8,Qb m)],H⟩) d.size (s0:=⟨[(0,.ref lo g 0 d.size),(1,Qb a),(2,Qb b),(7,Qb i),(8,Qb m)],H⟩) QQ ⟨i,rfl,hib,hK,rfl⟩ ?_;rintro n0 _ AH ⟨x,hx,Ex,aL,rfl⟩;have wB:IntKind.i64.wrap ((x:Int) - 1)=((x - 1:Nat):Int):=by rw[wrap64 (by omega) (by omega)];omega
  have H4:x - 1<d.size:=by omega
  have gx:x<b->x<d.size:=by omega
  rw[Sort.scanSorted]at aL;refine Qe hb ?_;simp only[go_sem,Qa,ZB,Vc];first|refine Yu ?_|skip
  refine Dc [0,1,2,7,8] [(32,QJ (decide (x<b)&&!Qv d1[x]! d1[x - 1]!))] rfl ?_ ?_
  ·by_cases cx:x<b
   ·have ex:decide (x<b)=true:=Q5 cx;have gx2:=gx cx;apply QH hb [0,1,2,3,4,5,6,7,8,9,10,11,12,1013,14,15];simp only[go_sem,Qa,ZB,Vc,Jd,ex,wB,H4,gx2];refine VX hb kQ (xC d1[x]! d1[x - 1]!) (Qn.flat rfl) λd h hR=>?_;obtain⟨rfl,rfl⟩:=hR;apply WW hb;exact QQ
   ·have ex:decide (x<b)=false:=QN cx;apply QH hb [0,1,2,3,4,5,6,7,8,9,10,11,12,1013,14,15];simp only[go_sem,Qa,ZB,Vc,Jd,ex];exact QQ
  cases hB:(decide (x<b)&&!Qv d1[x]! d1[x - 1]!)
  ·rw[hB,Qd (by decide)]at aL;subst aL;refine Qe hb ?_;simp only[go_sem,Qa,hB];by_cases cb:x=b
   ·have mU:((x:Int)==(b:Int))=true:=by rw[cb];exact Aa _
    rw[Qf cb]at Yz;refine Qe hb ?_;simp only[go_sem,Qa,mU];rw[<- Yz,<- hH];first|exact⟨rfl,rfl⟩|rfl
   ·have mU:((x:Int)==(b:Int))=false:=beq_eq_false_iff_ne.mpr (by omega);rw[Qd cb]at Yz;by_cases aC:b - a<50
    ·have wT:decide (((b - a:Nat):Int)<50)=true:=Q5 (by omega);rw[Qf aC]at Yz;refine Qe hb ?_;simp only[go_sem,Qa,mU,eba,wT];rw[<- Yz,<- hH];first|exact⟨rfl,rfl⟩|rfl
    ·have wT:decide (((b - a:Nat):Int)<50)=false:=QN (by omega);rw[Qd aC]at Yz;have px:x<d.size:=by omega
     refine Qe hb ?_;simp only[go_sem,Qa,mU,eba,wT];refine GO (⟨[(0,.ref lo g 0 d.size),(1,Qb a),(2,Qb b),(7,Qb x),(8,Qb m)],h.set lo (Zs g (Sort.swp d1 x (x - 1)))⟩) Qi hb mixed [(0,true),(1,true),(2,true),(3,true),(5,true),(6,true),(7,true),(8,true),(9,true),(10,true),(11,true),(12,true),(13,true),(14,true)] [4,15,16,17] (by kernel_rfl) (by kernel_rfl) (λs hw=>DB hw rfl ?_) ?_
     rotate_left
     ·simp only[go_sem,Qa,ZB,Vc,wB,px,H4,Jd,Qs Vc,JS,vj];rw[vk g d1 _ _ _ Jd px H4,<- hH,JS]
      repeat' refine And.intro ?_ ?_
      all_goals exact QQ
     generalize KN:Sort.swp d1 x (x - 1)=d2 at *;have JL:d2.size=d.size:=by rw[<- KN,swp_size,Jd]
     have Jx:=wy (g:=g) (d:=d2) Qg;have exa:IntKind.i64.wrap ((x:Int) - a)=((x - a:Nat):Int):=by rw[wrap64 (by omega) (by omega)];omega
     have ebx:IntKind.i64.wrap ((b:Int) - x)=((b - x:Nat):Int):=by rw[wrap64 (by omega) (by omega)];omega
     have Ya:IntKind.i64.wrap ((x:Int)+1)=((x+1:Nat):Int):=by rw[wrap64 (by omega) (by omega)];omega
     generalize aM:(if x - a >= 2 then Sort.shiftDown Qv (x - 1) d2 else d2)=d3 at *;have aD:d3.size=d.size:=by
      rw[<- aM];split
      ·rw[QaM,JL]
      ·exact JL
     first|refine Yu ?_|skip
     refine tQ (⟨[(0,.ref lo g 0 d.size),(1,Qb a),(2,Qb b),(7,Qb x),(8,Qb m)],h.set lo (Zs g d3)⟩) ?_ ?_
     ·by_cases cxa:x - a >= 2
      ·have QaS:decide ((2:Int)<=((x - a:Nat):Int))=true:=Q5 (by omega);rw[Qf cxa]at aM;refine Qe hb ?_;simp only[go_sem,Qa,exa,QaS,wB];rw[<- aM];refine Jg (λn st=>∃(dd:Array Int) (y:Nat),dd.size=d.size/\y+n=x - 1/\Sort.shiftDown Qv y dd=Sort.shiftDown Qv (x - 1) d2/\st=⟨[(0,.ref lo g 0 d.size),(1,Qb a),(2,Qb b),(7,Qb x),(8,Qb m),(9,Qb y)],h.set lo (Zs g dd)⟩) d.size (s0:=⟨[(0,.ref lo g 0 d.size),(1,Qb a),(2,Qb b),(7,Qb x),(8,Qb m),(9,Qb (x - 1:Nat))],h.set lo (Zs g d2)⟩) QQ ⟨d2,_,JL,by omega,rfl,rfl⟩ ?_;rintro n _ hn ⟨dd,y,DD,hy,Ks,rfl⟩;have AI:=wy (g:=g) (d:=dd) Qg;generalize DE:h.set lo (Zs g dd)=Hd at AI;have DF:=Qc AI;by_cases cy:1<=y
       ·have ey:decide ((1:Int)<=(y:Int))=true:=Q5 (by omega);obtain⟨y',rfl⟩:∃y',y=y'+1:=⟨y - 1,by omega⟩;rw[Sort.shiftDown]at Ks;have E9:IntKind.i64.wrap (((y'+1:Nat):Int) - 1)=((y':Nat):Int):=by rw[wrap64 (by omega) (by omega)];omega
        have q1:(y'+1)<d.size:=by omega
        have q2:y'<d.size:=by omega
        refine Qe hb ?_;simp only[go_sem,Qa,AI,DF,ey];apply QH hb [0,1,2,3,4,5,6,7,8,1009,10];simp only[go_sem,Qa,AI,DF,DD,E9,q1,q2];refine VX hb kQ (xC dd[y'+1]! dd[y']!) (Qn.flat rfl) λd h hR=>?_;obtain⟨rfl,rfl⟩:=hR;apply WW hb;cases hl:Qv dd[y'+1]! dd[y']!
        ·rw[hl,Hx,Qf rfl]at Ks;simp only[go_sem,hl];try (refine Qe hb ?_;simp only[go_sem,Qa])
         first|rw[<- Ks,<- DE]|rw[<- DE]
         exact QQ
        ·rw[hl,FI,Qd (by decide)]at Ks;simp only[go_sem,hl];refine GO (⟨[(0,.ref lo g 0 d.size),(1,Qb a),(2,Qb b),(7,Qb x),(8,Qb m),(9,Qb (y'+1:Nat))],h.set lo (Zs g (Sort.swp dd (y'+1) y'))⟩) Qi hb mixed [(0,true),(1,true),(2,true),(3,true),(5,true),(6,true),(7,true),(8,true),(9,true),(10,true),(11,true),(12,true),(13,true),(14,true)] [4,15,16,17] (by kernel_rfl) (by kernel_rfl) (λs hw=>DB hw rfl ?_) ?_
         rotate_left
         ·simp only[go_sem,Qa,AI,DF,DD,E9,q1,q2,Qs DF,JS,vj];rw[vk g dd _ _ _ DD q1 q2,<- DE,JS]
          repeat' refine And.intro ?_ ?_
          all_goals exact QQ
         refine Qe hb ?_;simp only[go_sem,E9];refine⟨by omega,_,?_,Sort.swp dd (y'+1) y',y',by rw[swp_size,DD],by omega,Ks,rfl⟩;exact QQ
       ·have ey:decide ((1:Int)<=(y:Int))=false:=QN (by omega);obtain rfl:y=0:=by omega
        rw[Sort.shiftDown]at Ks;refine Qe hb ?_;simp only[go_sem,Qa,AI,DF,ey];try (refine Qe hb ?_;simp only[go_sem,Qa])
        first|rw[<- Ks,<- DE]|rw[<- DE]
        exact QQ
      ·have QaS:decide ((2:Int)<=((x - a:Nat):Int))=false:=QN (by omega);rw[Qd cxa]at aM;refine Qe hb ?_;simp only[go_sem,Qa,exa,QaS];rw[<- aM];exact QQ
     have P0:IntKind.i64.wrap ((m:Int)+1)=((m+1:Nat):Int):=by rw[wrap64 (by omega) (by omega)];omega
     by_cases cbx:b - x >= 2
     ·have QaU:decide ((2:Int)<=((b - x:Nat):Int))=true:=Q5 (by omega);rw[Qf cbx]at Yz;refine Qe hb ?_;simp only[go_sem,Qa,ebx,QaU,Ya];refine Jg (λn st=>∃(dd:Array Int) (y:Nat),dd.size=d.size/\y=x+1+n/\y<=b/\Sort.shiftUp Qv b y dd=Sort.shiftUp Qv b (x+1) d3/\st=⟨[(0,.ref lo g 0 d.size),(1,Qb a),(2,Qb b),(7,Qb x),(8,Qb m),(10,Qb y)],h.set lo (Zs g dd)⟩) d.size (s0:=⟨[(0,.ref lo g 0 d.size),(1,Qb a),(2,Qb b),(7,Qb x),(8,Qb m),(10,Qb (x+1:Nat))],h.set lo (Zs g d3)⟩) QQ ⟨d3,_,aD,by omega,by omega,rfl,rfl⟩ ?_;rintro n _ hn ⟨dd,y,DD,hy,hyb,Ks,rfl⟩;have AI:=wy (g:=g) (d:=dd) Qg;generalize DE:h.set lo (Zs g dd)=Hd at AI;have DF:=Qc AI;by_cases cy:y<b
      ·have ey:decide (y<b)=true:=Q5 (by omega);rw[Sort.shiftUp,Qf cy]at Ks;have E9:IntKind.i64.wrap ((y:Int) - 1)=((y - 1:Nat):Int):=by rw[wrap64 (by omega) (by omega)];omega
       have aG:IntKind.i64.wrap ((y:Int)+1)=((y+1:Nat):Int):=by rw[wrap64 (by omega) (by omega)];omega
       have q1:y<d.size:=by omega
       have q2:(y - 1)<d.size:=by omega
       refine Qe hb ?_;simp only[go_sem,Qa,AI,DF,ey];apply QH hb [0,1,2,3,4,5,6,7,8,1009,10];simp only[go_sem,Qa,AI,DF,DD,E9,q1,q2];refine VX hb kQ (xC dd[y]! dd[y - 1]!) (Qn.flat rfl) λd h hR=>?_;obtain⟨rfl,rfl⟩:=hR;apply WW hb;cases hl:Qv dd[y]! dd[y - 1]!
       ·rw[hl,Hx,Qf rfl]at Ks;simp only[go_sem,hl];try (refine Qe hb ?_;simp only[go_sem,Qa])
        first|rw[<- Ks,<- DE]|rw[<- DE]
        try simp only[P0]
        refine⟨by omega,_,?_,dd,x,DD,by omega,by omega,by omega,by rw[QaN,Ks];exact Yz,rfl⟩;exact QQ
       ·rw[hl,FI,Qd (by decide)]at Ks;simp only[go_sem,hl];refine GO (⟨[(0,.ref lo g 0 d.size),(1,Qb a),(2,Qb b),(7,Qb x),(8,Qb m),(10,Qb (y:Nat))],h.set lo (Zs g (Sort.swp dd y (y - 1)))⟩) Qi hb mixed [(0,true),(1,true),(2,true),(3,true),(5,true),(6,true),(7,true),(8,true),(9,true),(10,true),(11,true),(12,true),(13,true),(14,true)] [4,15,16,17] (by kernel_rfl) (by kernel_rfl) (λs hw=>DB hw rfl ?_) ?_
        rotate_left
        ·simp only[go_sem,Qa,AI,DF,DD,E9,q1,q2,Qs DF,JS,vj];rw[vk g dd _ _ _ DD q1 q2,<- DE,JS]
         repeat' refine And.intro ?_ ?_
         all_goals exact QQ
        refine Qe hb ?_;simp only[go_sem,aG];refine⟨by omega,_,?_,Sort.swp dd y (y - 1),y+1,by rw[swp_size,DD],by omega,by omega,Ks,rfl⟩;exact QQ
      ·have ey:decide (y<b)=false:=QN (by omega);rw[Sort.shiftUp,Qd cy]at Ks;refine Qe hb ?_;simp only[go_sem,Qa,AI,DF,ey];try (refine Qe hb ?_;simp only[go_sem,Qa])
       first|rw[<- Ks,<- DE]|rw[<- DE]
       try simp only[P0]
       refine⟨by omega,_,?_,dd,x,DD,by omega,by omega,by omega,by rw[QaN,Ks];exact Yz,rfl⟩;exact QQ
     ·have QaU:decide ((2:Int)<=((b - x:Nat):Int))=false:=QN (by omega);rw[Qd cbx]at Yz;refine Qe hb ?_;simp only[go_sem,Qa,ebx,QaU,P0];refine⟨by omega,_,?_,d3,x,aD,by omega,by omega,by omega,by rw[QaN];exact Yz,rfl⟩;exact QQ
  ·rw[hB,Qf rfl]at aL;have lq:x<b:=by
    rw[Z9]at hB;exact Wc hB.1
   have Ya:IntKind.i64.wrap ((x:Int)+1)=((x+1:Nat):Int):=by rw[wrap64 (by omega) (by omega)];omega
   refine Qe hb ?_;simp only[go_sem,Qa,hB,Ya];refine⟨by omega,_,?_,x+1,by omega,by omega,aL,rfl⟩;exact QQ
 ·have em:decide ((m:Int)<5)=false:=QN (by omega);obtain rfl:m=5:=by omega
  rw[Ee,Sort.partialIns]at Yz;refine Qe hb ?_;simp only[go_sem,Qa,ZB,Vc,em];apply QC hb;rw[<- Yz,<- hH];first|exact⟨rfl,rfl⟩|rfl
end
def mV(n k)(h:2 ^ k<=n):Sort.bitsLen n=k+Sort.bitsLen (n / 2 ^ k):=by
 have e:∀m,Sort.bitsLen n<=m↔k+Sort.bitsLen (n / 2 ^ k)<=m:=by
  intro m;rw[Sort.bitsLen_le_iff];by_cases c:k<=m
  ·obtain⟨j,rfl⟩:∃j,m=k+j:=⟨m - k,by omega⟩;have h2:=Sort.bitsLen_le_iff (n / 2 ^ k) j;rw[Nat.div_lt_iff_lt_mul (eQ k),<- Nat.pow_add,Nat.add_comm j k]at h2;rw[<- h2];omega
  ·have:2 ^ m<=2 ^ k:=Nat.pow_le_pow_right (by decide) (by omega);constructor
   ·intro hh;omega
   ·intro hh;omega
 have a1:=(e (Sort.bitsLen n)).1 (QB _);have a2:=(e (k+Sort.bitsLen (n / 2 ^ k))).2 (QB _);omega
def mW(t:Array UInt8)(ht:(List.range 256).all (λi=>Nat.beq (t.getD i 0).toNat (Sort.bitsLen i))=true)(hs:t.size=256)(k i n)(hi:i<256)(hk:k<1000)(hn:Sort.bitsLen n=k+Sort.bitsLen i):
  IntKind.u8.wrap (i:Int)<(t.size:Int)/\D.raw (.int .i64 (IntKind.i64.wrap ((k:Int)+IntKind.i64.wrap ((t.getD (IntKind.u8.wrap (i:Int)).toNat 0).toNat:Int))))=D.raw (.int .i64 (Sort.bitsLen n)):=by
 have h1:=X6.1 ht i (Tu.2 hi);rw[Wp]at h1;have w:IntKind.u8.wrap (i:Int)=i:=by rw[IntKind.wrap_u8];omega
 rw[w,hs,show ((i:Int)).toNat=i from rfl,h1,hn];have h2:Sort.bitsLen i<=8:=(Sort.bitsLen_le_iff i 8).2 (by omega);refine⟨by omega,?_⟩;have w2:IntKind.i64.wrap (Sort.bitsLen i:Int)=Sort.bitsLen i:=wrap64 (by omega) (by omega);rw[w2,wrap64 (by omega) (by omega)];congr 2
def QzH(n)(hn:n<4294967296):Q4 prog 223 [u64 n] (Qn (Qb (Sort.bitsLen n))):=by
 have e1:decide ((4294967296:Int)<=n)=false:=QN (by omega);refine ZA 0 Qi 200 func223 rfl ntmps223 results223 rfl λbase w hb=>?_;simp only[go_sem];have s1:((n:Int).fdiv (2 ^ min 16 64))=((n / 65536:Nat):Int):=Nu n 16;have s2:∀m:Nat,((m:Int).fdiv (2 ^ min 8 64))=((m / 256:Nat):Int):=λm=>Nu m 8;have w16:IntKind.i64.wrap 16=16:=rfl;have Yb:IntKind.i64.wrap 24=24:=rfl;have w8:IntKind.i64.wrap 8=8:=rfl;by_cases c1:65536<=n
 ·have d1:decide ((65536:Int)<=n)=true:=Q5 (by omega);by_cases c2:256<=n / 65536
  ·have d2:decide ((256:Int)<=(n / 65536:Nat))=true:=Q5 (by omega);simp only[go_sem,e1,d1,s1,d2,s2,w16,Yb];exact mW _ (by kernel_rfl) (by kernel_rfl) 24 (n / 65536 / 256) n (by omega) (by decide) (by rw[mV n 16 (by omega),mV (n / 2 ^ 16) 8 (by omega),show n / 2 ^ 16 / 2 ^ 8=n / 65536 / 256 from rfl];omega)
  ·have d2:decide ((256:Int)<=(n / 65536:Nat))=false:=QN (by omega);simp only[go_sem,e1,d1,s1,d2,s2,w16,Yb];exact mW _ (by kernel_rfl) (by kernel_rfl) 16 (n / 65536) n (by omega) (by decide) (by rw[mV n 16 (by omega)])
 ·have d1:decide ((65536:Int)<=n)=false:=QN (by omega);by_cases c2:256<=n
  ·have d2:decide ((256:Int)<=n)=true:=Q5 (by omega);simp only[go_sem,e1,d1,s1,d2,s2,w8,Yb];exact mW _ (by kernel_rfl) (by kernel_rfl) 8 (n / 256) n (by omega) (by decide) (by rw[mV n 8 (by omega)])
  ·have d2:decide ((256:Int)<=n)=false:=QN (by omega);simp only[go_sem,e1,d1,s1,d2,s2];exact mW _ (by kernel_rfl) (by kernel_rfl) 0 n n (by omega) (by decide) (by omega)
def fq(n)(hn:n<4294967296):Q4 prog 179 [u64 n] (Qn (Qb (Sort.bitsLen n))):=by
 refine ZA 0 Qi 200 func179 rfl ntmps179 results179 rfl λbase w hb=>?_;simp only[go_sem];refine Wu hb QvK (QzH n hn) (Qn.flat rfl) λd h hR=>?_;obtain⟨rfl,rfl⟩:=hR;exact qY hb
def QzI(n:Nat)(hn:n<1000000000):Q4 prog 270 [Qb n] (Qn (u64 (2 ^ Sort.bitsLen n))):=by
 have w1:IntKind.u64.wrap (n:Int)=(n:Int):=by rw[IntKind.wrap_u64];omega
 have hb:=(Sort.bitsLen_le_iff n 30).2 (by omega);have hp:2 ^ Sort.bitsLen n<=2 ^ 30:=Nat.pow_le_pow_right (by decide) hb;have w2:IntKind.u64.wrap (1*2 ^ min (Sort.bitsLen n) 64)=((2 ^ Sort.bitsLen n:Nat):Int):=by
  rw[Qau (by omega),Int.one_mul,show (2:Int) ^ Sort.bitsLen n=((2 ^ Sort.bitsLen n:Nat):Int) by push_cast;rfl,IntKind.wrap_u64];generalize 2 ^ Sort.bitsLen n=p at *;omega
 refine ZA 0 Qi 200 func270 rfl ntmps270 results270 rfl λbase w hb=>?_;simp only[go_sem];simp only[go_sem,w1];refine ZW hb QhR rfl ?_ (fq n (by omega)) (Qn.flat rfl) rfl λd h hR=>?_
 ·simp only[go_sem,w2]
 obtain⟨rfl,rfl⟩:=hR;refine Qe hb ?_;simp only[go_sem,w2]
@[go_sem] def Lc(n:Nat):Ob:=⟨.one,0,1,1,λ_=>[u64 n]⟩
def QzJ{h:List Ob}{sp}(n)(vh:h[sp]? = some (Lc n))(hn:n<18446744073709551616):
  QK prog 271 h [.ptr sp 0 0 0] (λdd h'=>dd=u64 (Sort.xorNextN n)/\h'=h.set sp (Lc (Sort.xorNextN n))):=by
 refine Q6 Qi 200 func271 rfl ntmps271 results271 rfl λbase w pl hb=>?_;have xE:=Qc vh;simp only[go_sem,Qa,vh,xE];have x1:∀a:Nat,a<18446744073709551616->bits .xor .u64 (a:Int) (IntKind.u64.wrap ((a:Int)*2 ^ min 13 64))=((a ^^^ (a*8192 % 18446744073709551616):Nat):Int):=λa ha=>by
  rw[show IntKind.u64.wrap ((a:Int)*2 ^ min 13 64)=((a*8192 % 18446744073709551616:Nat):Int) from UQ a 8192];exact u64_xor_nat _ _ ha (qM _ (by decide))
 have x2:∀a:Nat,a<18446744073709551616->bits .xor .u64 (a:Int) ((a:Int).fdiv (2 ^ min 7 64))=((a ^^^ (a / 128):Nat):Int):=λa ha=>by
  rw[show (a:Int).fdiv (2 ^ min 7 64)=((a / 128:Nat):Int) from Nu a 7];exact u64_xor_nat _ _ ha (by omega)
 have x3:∀a:Nat,a<18446744073709551616->bits .xor .u64 (a:Int) (IntKind.u64.wrap ((a:Int)*2 ^ min 17 64))=((a ^^^ (a*131072 % 18446744073709551616):Nat):Int):=λa ha=>by
  rw[show IntKind.u64.wrap ((a:Int)*2 ^ min 17 64)=((a*131072 % 18446744073709551616:Nat):Int) from UQ a 131072];exact u64_xor_nat _ _ ha (qM _ (by decide))
 have ha:n ^^^ (n*8192 % 18446744073709551616)<18446744073709551616:=TE (n:=64) (by omega) (by omega);have KR:(n ^^^ (n*8192 % 18446744073709551616)) ^^^ ((n ^^^ (n*8192 % 18446744073709551616)) / 128)<18446744073709551616:=TE (n:=64) ha (by omega);unfold Sort.xorNextN;dsimp only;apply QH hb [0,1,2,3,4,5,6,7,8,1009];simp only[go_sem,Qa,vh,xE,x1 n hn];generalize n ^^^ (n*8192 % 18446744073709551616)=n1 at *;apply QH hb [0,1,2,3,4,5,6,7,8,1009];simp only[go_sem,Qa,Qs xE,JS,xE,x2 n1 ha];generalize n1 ^^^ (n1 / 128)=n2 at *;apply QH hb [0,1,2,3,4,5,6,7,8,1009];simp only[go_sem,Qa,Qs xE,JS,xE,x3 n2 KR];try exact⟨rfl,rfl⟩
def BX(a L M idx:Nat)(s0:UInt64 × Array Int):Nat->UInt64 × Array Int
 | 0=>s0
 | k+1=>Sort.breakStep a L M (BX a L M idx s0 k) (idx+k)
def QaW(a L M idx)(s0:UInt64 × Array Int):∀k,(BX a L M idx s0 k).2.size=s0.2.size
 | 0=>rfl
 | k+1=>by
  rw[BX,Sort.breakStep];dsimp only;rw[swp_size,QaW a L M idx s0 k]
def Qkr(d)(a b)(h:b - a >= 8):Sort.breakPatterns d a b=(BX a (b - a) (1 <<< Sort.bitsLen (b - a)) (a+(b - a) / 4*2 - 1) (UInt64.ofNat (b - a),d) 3).2:=by
 unfold Sort.breakPatterns;dsimp only;rw[Qf h];rfl
section
variable {h:List Ob}{lo g:Nat}{d:Array Int}(ho:h[lo]? = some (Zs g d))
include ho
theorem QzK(a b)(Vo:a<b)(ZG:b<=d.size)(hz:d.size<1000000000):
  QK prog 322 h [.ref lo g 0 d.size,Qb a,Qb b] (λdd h'=>dd=.tup []/\∃t,h'=h.set lo (Zs g (Sort.breakPatterns d a b))++t):=by
 have e0:IntKind.i64.wrap ((b:Int) - a)=((b - a:Nat):Int):=by rw[wrap64 (by omega) (by omega)];omega
 by_cases c8:b - a >= 8
 ·rw[Qkr d a b c8];have d8:decide ((8:Int)<=(b - a:Nat))=true:=Q5 (by omega);generalize hL:b - a=L at *;have hM1:=Sort.two_pow_bitsLen_le (n:=L) (by omega);have hM0:=eQ (Sort.bitsLen L);rw[show 1 <<< Sort.bitsLen L=2 ^ Sort.bitsLen L by rw[Nat.shiftLeft_eq,Nat.one_mul]];have f0:((L:Int)).tdiv 4=((L / 4:Nat):Int):=rfl;have f1:IntKind.i64.wrap (((L / 4:Nat):Int))=((L / 4:Nat):Int):=by rw[wrap64 (by omega) (by omega)]
  have f2:IntKind.i64.wrap (((L / 4:Nat):Int)*2)=((L / 4*2:Nat):Int):=by rw[wrap64 (by omega) (by omega)];omega
  have f3:IntKind.i64.wrap ((a:Int)+(L / 4*2:Nat))=((a+L / 4*2:Nat):Int):=by rw[wrap64 (by omega) (by omega)];omega
  have f4:IntKind.i64.wrap (((a+L / 4*2:Nat):Int) - 1)=((a+L / 4*2 - 1:Nat):Int):=by rw[wrap64 (by omega) (by omega)];omega
  have f5:IntKind.i64.wrap (((a+L / 4*2:Nat):Int)+1)=((a+L / 4*2+1:Nat):Int):=by rw[wrap64 (by omega) (by omega)];omega
  have f6:IntKind.u64.wrap (L:Int)=(L:Int):=by rw[IntKind.wrap_u64];omega
  refine Q6 Qi 200 func322 rfl ntmps322 results322 rfl λbase w pl hb=>?_;have Qg:=Qc ho;simp only[go_sem,Qa,ho,Qg,e0,d8,f6];refine ZW hb Qv0 rfl ?_ (QzI L (by omega)) (Qn.flat rfl) rfl λd h hR=>?_
  ·simp only[go_sem,f0,f1,f2,f3,f4]
  obtain⟨rfl,rfl⟩:=hR;refine Qe hb ?_;simp only[go_sem,f0,f1,f2,f3,f4];generalize hM:2 ^ Sort.bitsLen L=M at *;generalize hS:(UInt64.ofNat L,d)=s0;have XZ:s0.2.size=d.size:=by rw[<- hS]
  have RK:s0.1.toNat=L:=by rw[<- hS];simp;omega
  have NA:s0.2=d:=by rw[<- hS]
  refine Jg (λm st=>m<=3/\st=⟨[(0,.ref lo g 0 d.size),(1,Qb a),(6,Qb L),(7,.ptr h.length 0 0 0),(8,u64 M),(9,Qb (a+L / 4*2 - 1+m:Nat))],h.set lo (Zs g (BX a L M (a+L / 4*2 - 1) s0 m).2)++[Lc (BX a L M (a+L / 4*2 - 1) s0 m).1.toNat]⟩) 3 (s0:=⟨[(0,.ref lo g 0 d.size),(1,Qb a),(6,Qb L),(7,.ptr h.length 0 0 0),(8,u64 M),(9,Qb (a+L / 4*2 - 1+0:Nat))],h.set lo (Zs g (BX a L M (a+L / 4*2 - 1) s0 0).2)++[Lc (BX a L M (a+L / 4*2 - 1) s0 0).1.toNat]⟩) ?_ ⟨by omega,rfl⟩ ?_
  ·rw[BX,NA,RK,xD ho];exact QQ
  rintro m _ hm ⟨Gv,rfl⟩;have JP:=QaW a L M (a+L / 4*2 - 1) s0 m;rw[XZ]at JP;by_cases cm:m<3
  ·have stp:BX a L M (a+L / 4*2 - 1) s0 (m+1)=Sort.breakStep a L M (BX a L M (a+L / 4*2 - 1) s0 m) (a+L / 4*2 - 1+m):=rfl;generalize ZF:BX a L M (a+L / 4*2 - 1) s0 m=sm at *;obtain⟨r,dm⟩:=sm;dsimp only at JP ⊢;have Fc:=wy (g:=g) (d:=dm) Qg;have kX:(h.set lo (Zs g dm)).length=h.length:=KD;generalize hH:h.set lo (Zs g dm)=H at *;have Fe:=Qc Fc;have Zm:lo<h.length:=Qg;rw[<- kX];have g1:(H++[Lc r.toNat])[H.length]? = some (Lc r.toNat):=by simp
   have hx:=Sort.xorNext_toNat r;have Ku:=r.toNat_lt;have kF:=Sort.xorNextN_lt r.toNat Ku;have g2:∀o o':Ob,(H++[o]).set H.length o'=H++[o']:=λo o'=>by rw[UA rfl];rfl
   have c1:decide (a+L / 4*2 - 1+m<=a+L / 4*2+1)=true:=Q5 (by omega);refine Qe hb ?_;simp only[go_sem,Qa,f0,f1,f2,f3,f5,c1];refine VH hb Qv1 rfl ?_ (QzJ r.toNat g1 Ku) rfl λd h hR=>?_
   ·simp only[go_sem,g2]
   obtain⟨rfl,rfl⟩:=hR;refine Qe hb ?_;simp only[go_sem,g2];have wM:IntKind.u64.wrap ((M:Int) - 1)=((M - 1:Nat):Int):=by rw[IntKind.wrap_u64];omega
   generalize hxx:Sort.xorNextN r.toNat=x at *;have wA:bits .and .u64 (x:Int) ((M - 1:Nat):Int)=((x &&& (M - 1):Nat):Int):=u64_and_nat x (M - 1) kF (by omega);have yb:x &&& (M - 1)<=M - 1:=Nat.and_le_right;generalize hy:x &&& (M - 1)=y at *;have wI:IntKind.i64.wrap ((y:Nat):Int)=((y:Nat):Int):=by rw[wrap64 (by omega) (by omega)]
   have k0:IntKind.i64.wrap (((y:Nat):Int) - L)=((y - L:Nat):Int)\/¬ L<=y:=by
    by_cases q:L<=y
    ·left;rw[wrap64 (by omega) (by omega)];omega
    ·right;exact q
   have k4:IntKind.i64.wrap (((a+L / 4*2 - 1+m:Nat):Int)+1)=((a+L / 4*2 - 1+(m+1):Nat):Int):=by rw[wrap64 (by omega) (by omega)];omega
   simp only[go_sem,wM,wA,wI];by_cases cL:L<=y
   ·replace k0:=k0.resolve_right (λq=>q cL);have c2:decide (L<=y)=true:=Q5 cL;have K7:Sort.breakStep a L M (r,dm) (a+L / 4*2 - 1+m)=(Sort.xorNext r,Sort.swp dm (a+L / 4*2 - 1+m) (a+(y - L))):=by
     unfold Sort.breakStep;dsimp only;rw[hx,hy,Qf cL]
    have k1:a+L / 4*2 - 1+m<d.size:=by omega
    have k2:a+(y - L)<d.size:=by omega
    have k3:IntKind.i64.wrap ((a:Int)+((y - L):Nat))=((a+(y - L):Nat):Int):=by rw[wrap64 (by omega) (by omega)];omega
    simp only[go_sem,c2,k0];refine GO (⟨[(0,.ref lo g 0 d.size),(1,Qb a),(6,Qb L),(7,.ptr H.length 0 0 0),(8,u64 M),(9,Qb (a+L / 4*2 - 1+m:Nat))],H.set lo (Zs g (Sort.swp dm (a+L / 4*2 - 1+m) (a+(y - L))))++[Lc x]⟩) Qi hb mixed [(0,true),(1,true),(2,true),(3,true),(4,true),(6,true),(7,true),(8,true),(9,true),(10,true),(11,true),(12,true),(13,true),(14,true),(15,true),(16,true)] [5,17,18,19] (by kernel_rfl) (by kernel_rfl) (λs hw=>DB hw rfl ?_) ?_
    rotate_left
    ·simp only[go_sem,Qa,Fc,Fe,JP,k1,k2,k3,Qx Fe,EJ Fe,Qs Fe,JS,vj,KD,Qx (show lo<(H.set lo (Zs g dm)).length by simp;exact Fe)];rw[vk g dm _ _ _ JP k1 k2]
     repeat' refine And.intro ?_ ?_
     all_goals exact QQ
    refine Qe hb ?_;simp only[go_sem,k4];refine⟨by omega,_,?_,by omega,rfl⟩;rw[stp,K7,<- hH,JS,hx];rw[<- hH]at kX;rw[kX];exact QQ
   ·have c2:decide (L<=y)=false:=QN cL;have K7:Sort.breakStep a L M (r,dm) (a+L / 4*2 - 1+m)=(Sort.xorNext r,Sort.swp dm (a+L / 4*2 - 1+m) (a+y)):=by
     unfold Sort.breakStep;dsimp only;rw[hx,hy,Qd cL]
    have k1:a+L / 4*2 - 1+m<d.size:=by omega
    have k2:a+y<d.size:=by omega
    have k3:IntKind.i64.wrap ((a:Int)+(y:Nat))=((a+y:Nat):Int):=by rw[wrap64 (by omega) (by omega)];omega
    simp only[go_sem,c2];refine GO (⟨[(0,.ref lo g 0 d.size),(1,Qb a),(6,Qb L),(7,.ptr H.length 0 0 0),(8,u64 M),(9,Qb (a+L / 4*2 - 1+m:Nat))],H.set lo (Zs g (Sort.swp dm (a+L / 4*2 - 1+m) (a+y)))++[Lc x]⟩) Qi hb mixed [(0,true),(1,true),(2,true),(3,true),(4,true),(6,true),(7,true),(8,true),(9,true),(10,true),(11,true),(12,true),(13,true),(14,true),(15,true),(16,true)] [5,17,18,19] (by kernel_rfl) (by kernel_rfl) (λs hw=>DB hw rfl ?_) ?_
    rotate_left
    ·simp only[go_sem,Qa,Fc,Fe,JP,k1,k2,k3,Qx Fe,EJ Fe,Qs Fe,JS,vj,KD,Qx (show lo<(H.set lo (Zs g dm)).length by simp;exact Fe)];rw[vk g dm _ _ _ JP k1 k2]
     repeat' refine And.intro ?_ ?_
     all_goals exact QQ
    refine Qe hb ?_;simp only[go_sem,k4];refine⟨by omega,_,?_,by omega,rfl⟩;rw[stp,K7,<- hH,JS,hx];rw[<- hH]at kX;rw[kX];exact QQ
  ·obtain rfl:m=3:=by omega
   have c1:decide (a+L / 4*2 - 1+2<=a+L / 4*2)=false:=QN (by omega);refine Qe hb ?_;simp only[go_sem,Qa,f0,f1,f2,f3,f5,c1];try exact⟨_,rfl⟩
 ·have d8:decide ((8:Int)<=(b - a:Nat))=false:=QN (by omega);have e:Sort.breakPatterns d a b=d:=by
   unfold Sort.breakPatterns;dsimp only;rw[Qd c8]
  rw[e];refine Q6 Qi 200 func322 rfl ntmps322 results322 rfl λbase w pl hb=>?_;have Qg:=Qc ho;simp only[go_sem,Qa,ho,Qg,e0,d8];exact⟨[],by rw[QU];exact(xD ho).symm⟩
end
def Qku(a b):∀(n i:Nat) (d:Array Int),b - i<=n->(Sort.insOuter Qv a b i d).size=d.size
 | n,i,d,hn=>by
  rw[Sort.insOuter];split
  ·obtain⟨n',rfl⟩:∃n',n=n'+1:=⟨n - 1,by omega⟩;rw[Qku a b n' _ _ (by omega),Qka]
  ·rfl
def QzL(d:Array Int)(a b:Nat):(Sort.insertionSort Qv d a b).size=d.size:=Qku a b _ _ d (QB _)
def Qkv(first):∀(k:Nat) (d:Array Int),(Sort.heapPop Qv first k d).size=d.size
 | 0,d=>rfl
 | k+1,d=>by rw[Sort.heapPop,Qkv first k,mQ,swp_size]
def QzM(d:Array Int)(a b:Nat):(Sort.heapSort Qv d a b).size=d.size:=by rw[Sort.heapSort,Qkv,Qkc]
def QzN(d:Array Int)(a b:Nat):(Sort.breakPatterns d a b).size=d.size:=by
 by_cases c:b - a >= 8
 ·rw[Qkr d a b c,QaW]
 ·unfold Sort.breakPatterns;dsimp only;rw[Qd c]
def Qkw:∀(n i j:Nat) (d:Array Int),j - i<=n->(Sort.reverseLoop i j d).size=d.size
 | n,i,j,d,hn=>by
  rw[Sort.reverseLoop];split
  ·obtain⟨n',rfl⟩:∃n',n=n'+1:=⟨n - 1,by omega⟩;rw[Qkw n' _ _ _ (by omega),swp_size]
  ·rfl
def QzO(d:Array Int)(a b:Nat):(Sort.reverseRange d a b).size=d.size:=Qkw _ _ _ d (QB _)
def Qkx(a b):∀(s i:Nat) (d:Array Int),(Sort.partialIns Qv a b s i d).1.size=d.size
 | 0,i,d=>rfl
 | s+1,i,d=>by
  rw[Sort.partialIns];dsimp only;split
  ·rfl
  ·split
   ·rfl
   ·rw[Qkx a b s];have e:∀dd:Array Int,(if b - Sort.scanSorted Qv d b i >= 2 then Sort.shiftUp Qv b (Sort.scanSorted Qv d b i+1) dd else dd).size=dd.size:=λdd=>by
     split
     ·exact Qkh b _ _ _ (QB _)
     ·rfl
    rw[e];split
    ·rw[QaM,swp_size]
    ·rw[swp_size]
def QaX(d:Array Int)(a b p:Nat):(Sort.partitionEqual Qv d a b p).2.size=d.size:=by
 rw[Sort.partitionEqual,Qke a _ _ _ _ (QB _),swp_size]
def mX(d:Array Int)(a b p:Nat):(Sort.partition Qv d a b p).2.2.size=d.size:=by
 rw[Sort.partition_arr,swp_size,Qkf a _ _ _ _ (QB _),swp_size]
def Qky(d:Array Int)(a b l)(wb wp:Bool):(Sort.rd Qv d a b l wb wp).d1.size=d.size/\(Sort.rd Qv d a b l wb wp).d2.size=d.size/\(Sort.rd Qv d a b l wb wp).pi.1.size=d.size:=by
 have h1:(Sort.rd Qv d a b l wb wp).d1.size=d.size:=by
  cases wb
  ·exact QzN d a b
  ·rfl
 have h2:(Sort.rd Qv d a b l wb wp).d2.size=d.size:=by
  by_cases hh:(Sort.rd Qv d a b l wb wp).c.2=.decreasing
  ·rw[(Sort.rd_dec hh).1,QzO,h1]
  ·rw[(Sort.rd_not hh).1,h1]
 refine⟨h1,h2,?_⟩;cases hc:(wb&&wp&&decide ((Sort.rd Qv d a b l wb wp).hint=.increasing))
 ·rw[Sort.rd_pi_no hc,h2]
 ·rw[Sort.rd_pi_yes hc,Sort.partialInsertionSort,Qkx,h2]
def Qkz(a):∀(n i j:Nat) (d:Array Int),j+1 - i<=n->a<i->i<=j+1->a<(Sort.partEqLoop Qv a i j d).1/\(Sort.partEqLoop Qv a i j d).1<=j+1
 | n,i,j,d,hn,RJ,Vy=>by
  have NO:=mR (λx=>!Qv d[a]! x) (λx=>Qv d[a]! x) (λx=>by simp) d i j (by omega) Vy;obtain⟨u1,u2,u3,u4⟩:=Sort.scanUp_spec (λx=>!Qv d[a]! x) d j _ i rfl;obtain⟨v1,v2,v3,v4⟩:=Sort.scanDown_spec (λx=>Qv d[a]! x) d (Sort.scanUp (λx=>!Qv d[a]! x) d j i) j;have u5:=u2 Vy;rw[Sort.partEqLoop_eq];split
  ·exact⟨by dsimp only;omega,u5⟩
  ·rename_i h;have h2:=NO h;have:=Sort.partEqLoop_guard Qv a i j d h;obtain⟨n',rfl⟩:∃n',n=n'+1:=⟨n - 1,by omega⟩;obtain⟨r1,r2⟩:=Qkz a n' _ _ (Sort.swp d (Sort.scanUp (λx=>!Qv d[a]! x) d j i) (Sort.scanDown (λx=>Qv d[a]! x) d (Sort.scanUp (λx=>!Qv d[a]! x) d j i) j)) (show (Sort.scanDown (λx=>Qv d[a]! x) d (Sort.scanUp (λx=>!Qv d[a]! x) d j i) j - 1)+1 - (Sort.scanUp (λx=>!Qv d[a]! x) d j i+1)<=n' by omega) (by omega) (by omega);exact⟨r1,by omega⟩
def QzP(d)(a b p:Nat)(Vo:a<b):a<(Sort.partitionEqual Qv d a b p).1/\(Sort.partitionEqual Qv d a b p).1<=b:=by
 have:=Qkz a _ (a+1) (b - 1) (Sort.swp d a p) (QB _) (by omega) (by omega);rw[Sort.partitionEqual];omega
def QkA:Sort.SWO Qv:=⟨λx=>by simp[Qv],λx y z h1 h2=>by simp[Qv]at *;omega,λx y z h1 h2=>by simp[Qv]at *;omega⟩
def QzQ(d:Array Int)(a b p:Nat)(h1:a<=p)(h2:p<b)(hb:b<=d.size):a<=(Sort.partition Qv d a b p).1/\(Sort.partition Qv d a b p).1<b:=by
 have:=Sort.partition_holds Qv QkA d a b p h1 h2 hb;exact⟨this.1,this.2.1⟩
def QzR(d)(a b l)(wb wp:Bool)(Vo:a<b):a<=(Sort.rd Qv d a b l wb wp).pivot/\(Sort.rd Qv d a b l wb wp).pivot<b:=by
 have h:=Sort.choosePivot_holds Qv (Sort.rd Qv d a b l wb wp).d1 a b Vo;rw[<- Sort.rd_c]at h;by_cases hh:(Sort.rd Qv d a b l wb wp).c.2=.decreasing
 ·rw[(Sort.rd_dec hh).2.1];omega
 ·rw[(Sort.rd_not hh).2.1];exact h
def Ld:∀(n:Nat) (d:Array Int) (a b l:Nat) (wb wp:Bool),b - a<=n->(Sort.pdq Qv d a b l wb wp).size=d.size
 | n,d,a,b,l,wb,wp,hn=>by
  obtain⟨z1,z2,z3⟩:=Qky d a b l wb wp;rw[Sort.pdq_unfold];split
  ·exact QzL d a b
  ·split
   ·exact QzM d a b
   ·obtain⟨n',rfl⟩:∃n',n=n'+1:=⟨n - 1,by omega⟩;split
    ·exact z3
    ·split
     ·split
      ·rename_i h;rw[Ld n' _ _ _ _ _ _ (by omega),QaX,z3]
      ·rw[QaX,z3]
     ·split
      ·rename_i h;split
       ·rw[Ld n' _ _ _ _ _ _ (by omega),Ld n' _ _ _ _ _ _ (by omega),mX,z3]
       ·rw[Ld n' _ _ _ _ _ _ (by omega),Ld n' _ _ _ _ _ _ (by omega),mX,z3]
      ·rw[mX,z3]
def QkB(n:Nat):Prop:=∀(h:List Ob) (lo g:Nat) (d:Array Int),h[lo]? = some (Zs g d)->∀a b l:Nat,a<=b->b<=d.size->l<1000->d.size<1000000000->b - a<n ->
 QK prog 310 h [.ref lo g 0 d.size,Qb a,Qb b,Qb l] (λdd h'=>dd=.tup []/\∃t,h'=h.set lo (Zs g (Sort.pdq Qv d a b l true true))++t)
def GU{h t:List Ob}{lo}{x y}(hl:lo<h.length):(h.set lo x++t).set lo y=h.set lo y++t:=by
 rw[eI _ _ (by simpa using hl),JS]
def aN{h t:List Ob}{lo}{x}(hl:lo<h.length):(h.set lo x++t)[lo]? = some x:=by
 rw[JD (by simpa using hl),Qs hl]
def QkC(c:Sort.Hint)(k:Sort.Hint):((GP c:Int)==(GP k:Int))=decide (c=k):=by cases c<;>cases k<;>rfl
def QzS(n:Nat)(IH:QkB n){h:List Ob}{lo g:Nat}{d:Array Int}(ho:h[lo]? = some (Zs g d))(a b l:Nat)(Vo:a<=b)(ZG:b<=d.size)(hl:l<1000)(hz:d.size<1000000000)(hn:b - a<n+1):
  QK prog 310 h [.ref lo g 0 d.size,Qb a,Qb b,Qb l] (λdd h'=>dd=.tup []/\∃t,h'=h.set lo (Zs g (Sort.pdq Qv d a b l true true))++t):=by
 refine Q6 Qi 200 func310 rfl ntmps310 results310 rfl λbase w pl hb=>?_;have Qg:=Qc ho;simp only[go_sem,Qa,ho,Qg];refine Jg (λm st=>∃(d1:Array Int) (a1 b1 l1:Nat) (wb wp:Bool) (t:List Ob),d1.size=d.size/\a1<=b1/\b1<=d.size/\l1<1000/\m+(b1 - a1)<=b - a/\Sort.pdq Qv d1 a1 b1 l1 wb wp=Sort.pdq Qv d a b l true true/\st=⟨[(0,.ref lo g 0 d.size),(1,Qb a1),(2,Qb b1),(3,Qb l1),(8,QJ wb),(9,QJ wp)],h.set lo (Zs g d1)++t⟩) (b - a) (s0:=⟨[(0,.ref lo g 0 d.size),(1,Qb a),(2,Qb b),(3,Qb l),(8,QJ true),(9,QJ true)],h.set lo (Zs g d)++[]⟩) ?_ ⟨d,a,b,l,true,true,[],rfl,Vo,ZG,hl,by omega,rfl,rfl⟩ ?_
 ·rw[xD ho,QU];exact QQ
 rintro m _ hm ⟨d1,a1,b1,l1,wb,wp,t1,Jd,QLz,QLA,ZB,lz,jy,rfl⟩;have e0:IntKind.i64.wrap ((b1:Int) - a1)=((b1 - a1:Nat):Int):=by rw[wrap64 (by omega) (by omega)];omega
 have M7:(h.set lo (Zs g d1)++t1)[lo]? = some (Zs g d1):=aN Qg;rw[Sort.pdq_unfold]at jy;by_cases c12:b1 - a1<=12
 ·have d12:decide (((b1 - a1:Nat):Int)<=12)=true:=Q5 (by omega);rw[Qf c12]at jy;refine Qe hb ?_;simp only[go_sem,Qa,e0,d12];refine Jh hb Qwf (Jd▸Qzn M7 a1 b1 (by omega) (by omega) (by omega)) λd h hR=>?_;obtain⟨rfl,rfl⟩:=hR;apply Zi hb;refine⟨t1,?_⟩;rw[<- jy];exact GU Qg
 ·have d12:decide (((b1 - a1:Nat):Int)<=12)=false:=QN (by omega);rw[Qd c12]at jy;by_cases cl:l1=0
  ·have dl:((l1:Int)==0)=true:=by rw[cl];rfl
   rw[Qf cl]at jy;refine Qe hb ?_;simp only[go_sem,Qa,e0,d12,dl];refine Jh hb Qwg (Jd▸Qzo M7 a1 b1 (by omega) (by omega) (by omega)) λd h hR=>?_;obtain⟨rfl,rfl⟩:=hR;apply Zi hb;refine⟨t1,?_⟩;rw[<- jy];exact GU Qg
  ·have dl:((l1:Int)==0)=false:=beq_eq_false_iff_ne.mpr (by omega);rw[Qd cl]at jy;refine Ye Qi hb 30 ?_;simp only[go_sem,Qa,e0,d12,dl];obtain⟨z1,z2,z3⟩:=Qky d1 a1 b1 l1 wb wp;have QLB:=Sort.rd_lim_le (lt:=Qv) (d:=d1) (a:=a1) (b:=b1) (limit:=l1) (wb:=wb) (wp:=wp);have RL:=QzR d1 a1 b1 l1 wb wp (by omega);rw[Jd]at z1 z2 z3;first|refine Yu ?_|skip
   refine Lb (λst=>∃t,st=⟨[(0,.ref lo g 0 d.size),(1,Qb a1),(2,Qb b1),(3,Qb (Sort.rd Qv d1 a1 b1 l1 wb wp).lim),(8,QJ wb),(9,QJ wp),(10,Qb (b1 - a1:Nat))],h.set lo (Zs g (Sort.rd Qv d1 a1 b1 l1 wb wp).d1)++t⟩) ?_ ?_
   ·cases wb
    ·have vl:IntKind.i64.wrap ((l1:Int) - 1)=((l1 - 1:Nat):Int):=by rw[wrap64 (by omega) (by omega)];omega
     rw[Sort.rd_false.1,Sort.rd_false.2];apply Zi hb;refine VH hb Qwh rfl ?_ (Jd▸QzK M7 a1 b1 (by omega) (by omega) (by omega)) rfl λd h hR=>?_
     ·simp only[go_sem,vl]
     obtain⟨rfl,t2,rfl⟩:=hR;refine Qe hb ?_;simp only[go_sem,vl];refine⟨_,⟨t1++t2,rfl⟩,?_⟩;rw[GU Qg,WC];exact QQ
    ·rw[Sort.rd_true.1,Sort.rd_true.2];apply Zi hb;refine⟨_,⟨t1,rfl⟩,?_⟩;exact QQ
   have hc:=Sort.rd_c (lt:=Qv) (d:=d1) (a:=a1) (b:=b1) (limit:=l1) (wb:=wb) (wp:=wp);have QzT:=Sort.rd_dec (lt:=Qv) (d:=d1) (a:=a1) (b:=b1) (limit:=l1) (wb:=wb) (wp:=wp);have QzU:=Sort.rd_not (lt:=Qv) (d:=d1) (a:=a1) (b:=b1) (limit:=l1) (wb:=wb) (wp:=wp);have QzV:=Sort.rd_pi_yes (lt:=Qv) (d:=d1) (a:=a1) (b:=b1) (limit:=l1) (wb:=wb) (wp:=wp);have Jy:=Sort.rd_pi_no (lt:=Qv) (d:=d1) (a:=a1) (b:=b1) (limit:=l1) (wb:=wb) (wp:=wp);have q7:=Sort.choosePivot_holds Qv (Sort.rd Qv d1 a1 b1 l1 wb wp).d1 a1 b1 (by omega);rw[<- hc]at q7;generalize Sort.rd Qv d1 a1 b1 l1 wb wp=R at *;rintro _ ⟨t2,rfl⟩;apply QC hb;refine VH hb Qwi rfl ?_ (z1▸Qzl (aN (x:=Zs g R.d1) Qg) a1 b1 (by omega) (by omega) (by omega)) rfl λd h hR=>?_
   ·simp only[go_sem,WC]
   obtain⟨rfl,t3,rfl⟩:=hR;refine Ye Qi hb 12 ?_;simp only[go_sem,WC];rw[<- hc];first|refine Yu ?_|skip
   refine Lb (λst=>∃t,st=⟨[(0,.ref lo g 0 d.size),(1,Qb a1),(2,Qb b1),(3,Qb R.lim),(8,QJ wb),(9,QJ wp),(10,Qb (b1 - a1:Nat)),(11,Qb R.pivot),(12,Qb (GP R.hint:Nat))],h.set lo (Zs g R.d2)++t⟩) ?_ ?_
   ·by_cases hh:R.c.2=.decreasing
    ·obtain⟨r1,r2,r3⟩:=QzT hh;have b2:((GP R.c.2:Int)==2)=true:=by rw[hh];rfl
     have v1:IntKind.i64.wrap ((b1:Int) - 1)=((b1 - 1:Nat):Int):=by rw[wrap64 (by omega) (by omega)];omega
     have v2:IntKind.i64.wrap ((R.c.1:Int) - a1)=((R.c.1 - a1:Nat):Int):=by rw[wrap64 (by omega) (by omega)];omega
     have v3:IntKind.i64.wrap (((b1 - 1:Nat):Int) - (R.c.1 - a1:Nat))=(((b1 - 1) - (R.c.1 - a1):Nat):Int):=by rw[wrap64 (by omega) (by omega)];omega
     refine Qe hb ?_;simp only[go_sem,b2];refine VH hb Qwj rfl ?_ (z1▸Qzm (aN (x:=Zs g R.d1) Qg) a1 b1 (by omega) (by omega) (by omega)) rfl λd h hR=>?_
     ·simp only[go_sem,v1,v2,v3]
     obtain⟨rfl,rfl⟩:=hR;refine Qe hb ?_;simp only[go_sem,v1,v2,v3];rw[r1,r2,r3];refine⟨_,⟨t2++t3,rfl⟩,?_⟩;rw[GU Qg];exact Qp.frame (by simp only[go_sem];first|rfl|exact⟨rfl,rfl⟩)
    ·obtain⟨r1,r2,r3⟩:=QzU hh;have b2:((GP R.c.2:Int)==2)=false:=by rw[show (2:Int)=(GP .decreasing:Int) from rfl,QkC];exact QN hh
     refine Qe hb ?_;simp only[go_sem,b2];rw[r1,r2,r3];refine⟨_,⟨t2++t3,rfl⟩,?_⟩;exact QQ
   rintro _ ⟨t4,rfl⟩;refine Yu ?_;first|refine Yu ?_|skip
   refine tQ (⟨[(0,.ref lo g 0 d.size),(1,Qb a1),(2,Qb b1),(3,Qb R.lim),(8,QJ wb),(9,QJ wp),(10,Qb (b1 - a1:Nat)),(11,Qb R.pivot),(12,Qb (GP R.hint:Nat)),(68,QJ (wb&&wp&&decide (R.hint=.increasing)))],h.set lo (Zs g R.d2)++t4⟩) ?_ ?_
   ·cases wb
    ·apply QC hb;exact Qp.frame (by simp only[go_sem,Mf])
    ·cases wp
     ·apply QC hb;exact Qp.frame (by simp only[go_sem,Mf,Mg])
     ·have fS:((GP R.hint:Int)==1)=decide (R.hint=.increasing):=QkC R.hint .increasing;refine Qe hb ?_;simp only[go_sem,Qa,fS];exact Qp.frame (by simp only[go_sem,Mf,Mg])
   first|refine Yu ?_|skip
   refine Lb (λst=>R.pi.2=false/\∃t,st=⟨[(0,.ref lo g 0 d.size),(1,Qb a1),(2,Qb b1),(3,Qb R.lim),(8,QJ wb),(9,QJ wp),(10,Qb (b1 - a1:Nat)),(11,Qb R.pivot)],h.set lo (Zs g R.pi.1)++t⟩) ?_ ?_
   ·cases hB:(wb&&wp&&decide (R.hint=.increasing))
    ·have hp:=Jy hB;apply Zi hb;rw[hp];refine⟨_,⟨rfl,t4,rfl⟩,?_⟩;exact QQ
    ·have hp:=QzV hB;apply Zi hb;refine Jh hb Qwk (z2▸QzF (aN (x:=Zs g R.d2) Qg) a1 b1 (by omega) (by omega) (by omega)) λd h hR=>?_;obtain⟨rfl,rfl⟩:=hR;apply Zi hb;rw[<- hp];cases Jb:R.pi.2
     ·simp only[go_sem];refine⟨_,⟨t4,rfl⟩,?_⟩;rw[GU Qg];exact QQ
     ·rw[Qf Jb]at jy;simp only[go_sem];refine⟨t4,?_⟩;rw[<- jy];exact GU Qg
   rintro _ ⟨QzW,t5,rfl⟩;rw[Qd (by rw[QzW];decide)]at jy;generalize hD:R.pi.1=DA at *;have RM:(h.set lo (Zs g DA)++t5)[lo]? = some (Zs g DA):=aN Qg;generalize Rf:h.set lo (Zs g DA)++t5=HD at RM;have Qa0:=Qc RM;have p2:R.pivot<d.size:=by omega
   have f1:a1 > 0->IntKind.i64.wrap ((a1:Int) - 1)=((a1 - 1:Nat):Int):=λq=>by rw[wrap64 (by omega) (by omega)];omega
   have p1:a1 - 1<d.size:=by omega
   refine Yu ?_;first|refine Yu ?_|skip
   refine Dc [0,1,2,3,8,9,10,11] [(87,QJ (decide (a1 > 0)&&!Qv DA[a1 - 1]! DA[R.pivot]!))] rfl ?_ ?_
   ·by_cases ca:a1 > 0
    ·have da:decide ((0:Int)<(a1:Int))=true:=Q5 (by omega);have f2:=f1 ca;apply QH hb [0,1,2,3,4,5,6,7,8,9,10,11,1012,13,14];simp only[go_sem,Qa,RM,Qa0,z3,da,f2,p1,p2];refine VX hb kQ (xC DA[a1 - 1]! DA[R.pivot]!) (Qn.flat rfl) λd h hR=>?_;obtain⟨rfl,rfl⟩:=hR;apply WW hb;exact Qp.frame (by simp only[go_sem,Q5 ca,Mg])
    ·have da:decide ((0:Int)<(a1:Int))=false:=QN (by omega);apply QH hb [0,1,2,3,4,5,6,7,8,9,10,11,1012,13,14];simp only[go_sem,Qa,RM,Qa0,z3,da];exact Qp.frame (by simp only[go_sem,QN ca,Mf])
   cases hB:(decide (a1 > 0)&&!Qv DA[a1 - 1]! DA[R.pivot]!)
   ·rw[hB,Qd (by decide)]at jy;have hr:=QzQ DA a1 b1 R.pivot RL.1 RL.2 (by omega);have JP:=mX DA a1 b1 R.pivot;rw[Qf hr]at jy;refine Qe hb ?_;simp only[go_sem,Qa,hB];refine Jh hb Qwm (z3▸Qzv RM a1 b1 R.pivot (by omega) (by omega) RL.1 RL.2 (by omega)) λd h hR=>?_;obtain⟨rfl,rfl⟩:=hR;apply Zi hb;generalize Sort.partition Qv DA a1 b1 R.pivot=pt at *;obtain⟨qz,QkE,E⟩:=pt;dsimp only at *;have k1:IntKind.i64.wrap ((qz:Int) - a1)=((qz - a1:Nat):Int):=by rw[wrap64 (by omega) (by omega)];omega
    have k2:IntKind.i64.wrap ((b1:Int) - qz)=((b1 - qz:Nat):Int):=by rw[wrap64 (by omega) (by omega)];omega
    have k3:((b1 - a1:Nat):Int).tdiv 8=(((b1 - a1) / 8:Nat):Int):=rfl;have k4:IntKind.i64.wrap ((((b1 - a1) / 8:Nat):Int))=(((b1 - a1) / 8:Nat):Int):=by rw[wrap64 (by omega) (by omega)]
    have k5:IntKind.i64.wrap ((qz:Int)+1)=((qz+1:Nat):Int):=by rw[wrap64 (by omega) (by omega)];omega
    have mY:E.size=d.size:=by rw[JP,z3]
    have atE:(HD.set lo (Zs g E))[lo]? = some (Zs g E):=Qs Qa0;by_cases mZ:qz - a1<b1 - qz
    ·have aO:decide (qz - a1<b1 - qz)=true:=Q5 mZ;rw[Qf mZ]at jy;simp only[go_sem,k1,k2,k3,k4,aO];refine Qe hb ?_;simp only[go_sem,k1,k2,k3,k4,aO];refine VH hb tF rfl ?_ (mY▸IH _ lo g E atE a1 qz R.lim (by omega) (by omega) (by omega) (by omega) (by omega)) rfl λd h hR=>?_
     ·simp only[go_sem,k5]
     obtain⟨rfl,t6,rfl⟩:=hR;refine Qe hb ?_;simp only[go_sem,k5];have Yc:=Ld _ E a1 qz R.lim true true (QB _);refine⟨by omega,_,?_,Sort.pdq Qv E a1 qz R.lim true true,qz+1,b1,R.lim,decide ((b1 - a1) / 8<=qz - a1),QkE,t5++t6,by rw[Yc,mY],by omega,by omega,by omega,by omega,jy,rfl⟩;rw[JS,<- Rf,GU Qg,WC];exact QQ
    ·have aO:decide (qz - a1<b1 - qz)=false:=QN mZ;rw[Qd mZ]at jy;simp only[go_sem,k1,k2,k3,k4,aO];refine Qe hb ?_;simp only[go_sem,k1,k2,k3,k4,k5,aO];refine Jh hb tF (mY▸IH _ lo g E atE (qz+1) b1 R.lim (by omega) (by omega) (by omega) (by omega) (by omega)) λd h hR=>?_;obtain⟨rfl,t6,rfl⟩:=hR;apply Zi hb;have Yc:=Ld _ E (qz+1) b1 R.lim true true (QB _);refine⟨by omega,_,?_,Sort.pdq Qv E (qz+1) b1 R.lim true true,a1,qz,R.lim,decide ((b1 - a1) / 8<=b1 - qz),QkE,t5++t6,by rw[Yc,mY],by omega,by omega,by omega,by omega,jy,rfl⟩;rw[JS,<- Rf,GU Qg,WC];exact QQ
   ·rw[hB,Qf rfl]at jy;have hr:=QzP DA a1 b1 R.pivot (by omega);have JP:=QaX DA a1 b1 R.pivot;rw[Qf hr]at jy;refine Qe hb ?_;simp only[go_sem,Qa,hB];refine Jh hb Qwl (z3▸Qzp RM a1 b1 R.pivot (by omega) (by omega) RL.1 RL.2 (by omega)) λd h hR=>?_;obtain⟨rfl,rfl⟩:=hR;apply Zi hb;refine⟨by omega,_,?_,(Sort.partitionEqual Qv DA a1 b1 R.pivot).2,(Sort.partitionEqual Qv DA a1 b1 R.pivot).1,b1,R.lim,wb,wp,t5,by omega,by omega,by omega,by omega,by omega,jy,rfl⟩;rw[<- Rf,GU Qg];exact QQ
def QkG:∀n,QkB n
 | 0=>λ_ _ _ _ _ _ _ _ _ _ _ _ hn=>absurd hn (Vw _)
 | n+1=>λh lo g d ho a b l Vo hb hl hz hn=>QzS n (QkG n) ho a b l Vo hb hl hz hn
def QzX(n)(h:n<1000000000):Sort.bitsLen n<=30:=(Sort.bitsLen_le_iff n 30).2 (by omega)
def QzY{h:List Ob}{lo g}{d:Array Int}(ho:h[lo]? = some (Zs g d))(hz:d.size<1000000000):
  QK prog 283 h [.ref lo g 0 d.size] (λdd h'=>dd=.tup []/\∃t,h'=h.set lo (Zs g (Sort.sort Qv d))++t):=by
 have KR:=QzX _ hz;have w0:IntKind.u64.wrap (d.size:Int)=d.size:=by rw[IntKind.wrap_u64];omega
 refine Q6 Qi 200 func283 rfl ntmps283 results283 rfl λbase w pl hb=>?_;have Qg:=Qc ho;simp only[go_sem,Qa,ho,Qg,w0];refine Wu hb QhR (fq d.size (by omega)) (Qn.flat rfl) λd h hR=>?_;obtain⟨rfl,rfl⟩:=hR;apply Zi hb;refine Jh hb tF (QkG (d.size+1) h lo g d ho 0 d.size (Sort.bitsLen d.size) (Z7 _) (QB _) (by omega) hz (by omega)) λd h hR=>?_;obtain⟨rfl,t,rfl⟩:=hR;apply Zi hb;exact⟨t,rfl⟩
def cN(f:Nat->Int):Nat->List Int
 | 0=>[]
 | n+1=>if n≠0/\f n=f (n - 1) then cN f n else cN f n++[f n]
def RN(f):∀n,(cN f n).length<=n
 | 0=>QB _
 | n+1=>by
  have:=RN f n;rw[cN];split
  ·omega
  ·simp;omega
def Qa2(f)(x):∀n,x∈cN f n↔∃i,i<n/\f i=x
 | 0=>by simp[cN]
 | n+1=>by
  have ih:=Qa2 f x n;rw[cN];split
  ·rename_i c;rw[ih];constructor
   ·rintro⟨i,h1,h2⟩;exact⟨i,by omega,h2⟩
   ·rintro⟨i,h1,h2⟩;by_cases e:i=n
    ·subst e;exact⟨i - 1,by omega,by rw[<- c.2];exact h2⟩
    ·exact⟨i,by omega,h2⟩
  ·rw[Q9,ih];simp only[zn];constructor
   ·rintro (⟨i,h1,h2⟩|h)
    ·exact⟨i,by omega,h2⟩
    ·exact⟨n,by omega,h.symm⟩
   ·rintro⟨i,h1,h2⟩;by_cases e:i=n
    ·subst e;exact Or.inr h2.symm
    ·exact Or.inl ⟨i,by omega,h2⟩
def NQ(f):∀n,(cN f n).length=n->∀i,i<n->(cN f n).getD i 0=f i
 | 0,_,i,hi=>absurd hi (Vw _)
 | n+1,h,i,hi=>by
  have hle:=RN f n;rw[cN]at h ⊢;split at h
  ·omega
  ·rename_i c;rw[Qd c];simp at h;by_cases e:i=n
   ·subst e;rw[Ze,Kf (by omega),h,Ee];rfl
   ·rw[Ze,JD (by omega),<- Ze];exact NQ f n h i (by omega)
def QzZ(g)(d:Array Int)(i n)(x)(hn:d.size=n)(hi:i<n):
  (⟨.arr,g,1,n,λk=>bif k==i then [.raw (.int .u64 x)] else [.raw (.int .u64 d[k]!)]⟩:Ob)=Zs g (d.setIfInBounds i x):=by
 subst hn;unfold Zs;congr 1
 ·simp
 ·funext k;unfold DC uI;by_cases k1:k=i
  ·subst k1;simp[hi]
  ·have e1:(k==i)=false:=beq_eq_false_iff_ne.mpr k1;rw[e1];by_cases k3:k<d.size
   ·simp[k1,k3,Q8 k1,pK]
   ·simp[k1,k3]
def Qz0{h:List Ob}{lo g}{d:Array Int}(ho:h[lo]? = some (Zs g d))(hz:d.size<1000000000):
  QK prog 284 h [.ref lo g 0 d.size] (λdd h'=>dd=.ref lo g 0 (cN (λi=>d[i]!) d.size).length/\∃row,h'=h.set lo ⟨.arr,g,1,d.size,row⟩/\(∀i,i<(cN (λi=>d[i]!) d.size).length->row i=[uI ((cN (λi=>d[i]!) d.size).getD i 0)])/\∀i,∃x,row i=[uI x]):=by
 by_cases c2:d.size<2
 ·have e2:decide ((d.size:Int)<2)=true:=Q5 (by omega);have hlen:(cN (λi=>d[i]!) d.size).length=d.size:=by
   have:d.size=0\/d.size=1:=by omega
   rcases this with h0|h0<;>rw[h0]<;>rfl
  rw[hlen];refine Q6 Qi 200 func284 rfl ntmps284 results284 rfl λbase w pl hb=>?_;have Qg:=Qc ho;simp only[go_sem,Qa,ho,Qg,e2];exact⟨DC d,(xD ho).symm,λi hi=>by rw[NQ _ _ hlen i hi];rfl,λi=>⟨_,rfl⟩⟩
 ·have e2:decide ((d.size:Int)<2)=false:=QN (by omega);refine Q6 Qi 200 func284 rfl ntmps284 results284 rfl λbase w pl hb=>?_;have Qg:=Qc ho;simp only[go_sem,Qa,ho,Qg,e2];refine Jg (λk st=>k+1<=d.size/\(cN (λi=>d[i]!) (k+1)).length=k+1/\st=⟨[(0,.ref lo g 0 d.size),(3,Qb (k+1:Nat))],h⟩) d.size (s0:=⟨[(0,.ref lo g 0 d.size),(3,Qb (0+1:Nat))],h⟩) QQ ⟨by omega,rfl,rfl⟩ ?_;rintro k _ hk ⟨Qj,ZP,rfl⟩;by_cases ck:k+1<d.size
  ·have ek:decide (k+1<d.size)=true:=Q5 ck;have v1:IntKind.i64.wrap (((k+1:Nat):Int) - 1)=((k:Nat):Int):=by rw[wrap64 (by omega) (by omega)];omega
   have v2:IntKind.i64.wrap (((k+1:Nat):Int)+1)=((k+1+1:Nat):Int):=by rw[wrap64 (by omega) (by omega)];omega
   have p0:k<d.size:=by omega
   refine Qe hb ?_;simp only[go_sem,Qa,ho,Qg,ek];apply QH hb [0,1,2,3,4,5,6,7,8,9];simp only[go_sem,Qa,ho,Qg,v1,ck,p0];by_cases YS:d[k+1]! = d[k]!
   ·have NR:(d[k+1]! == d[k]!)=true:=beq_iff_eq.mpr YS;have JW:(cN (λi=>d[i]!) (k+1+1)).length=k+1:=by
     rw[cN,Qf ⟨by omega,by simpa using YS⟩,ZP]
    have q0:k+1<=d.size:=by omega
    generalize hN:d.size - (k+1)=N;have v3:((d.size:Int) - ((k+1:Nat):Int)).toNat=N:=by omega
    simp only[go_sem,NR,q0,hN,Qa,ho,Qg,v3];refine Jg (λm st=>∃(d1:Array Int),d1.size=d.size/\m+1<=N/\(cN (λi=>d[i]!) (k+1+(m+1))).length<=k+1+m/\(∀i,i<(cN (λi=>d[i]!) (k+1+(m+1))).length->d1[i]! = (cN (λi=>d[i]!) (k+1+(m+1))).getD i 0)/\(∀j,(cN (λi=>d[i]!) (k+1+(m+1))).length<=j->d1[j]! = d[j]!)/\st=⟨[(0,.ref lo g 0 d.size),(3,Qb (cN (λi=>d[i]!) (k+1+(m+1))).length),(4,.ref lo g (k+1) N),(5,Qb (m+1:Nat))],h.set lo (Zs g d1)⟩) N (s0:=⟨[(0,.ref lo g 0 d.size),(3,Qb (cN (λi=>d[i]!) (k+1+(0+1))).length),(4,.ref lo g (k+1) N),(5,Qb (0+1:Nat))],h.set lo (Zs g d)⟩) ?_ ⟨d,rfl,by omega,Nat.le_of_eq JW,λi hi=>?_,λj hj=>rfl,rfl⟩ ?_
    ·rw[xD ho,JW];exact QQ
    ·rw[cN,Qf ⟨by omega,by simpa using YS⟩]at hi ⊢;exact(NQ _ _ ZP i (by omega)).symm
    rintro m _ hm ⟨d1,Jd,hmN,U1,NS,GV,rfl⟩;have ZB:=wy (g:=g) (d:=d1) Qg;have GW:cN (λi=>d[i]!) (k+1+(m+1+1))=if d[k+1+(m+1)]! = d[k+1+m]! then cN (λi=>d[i]!) (k+1+(m+1)) else cN (λi=>d[i]!) (k+1+(m+1))++[d[k+1+(m+1)]!]:=by
     rw[show k+1+(m+1+1)=(k+1+(m+1))+1 by omega,cN];simp
    generalize hC:cN (λi=>d[i]!) (k+1+(m+1))=C at *;generalize hH:h.set lo (Zs g d1)=H at ZB;have Vc:=Qc ZB;by_cases cm:m+1<N
    ·have em:decide (m+1<N)=true:=Q5 cm;have r1:=GV (k+1+(m+1)) (by omega);have r2:=GV (k+1+m) (by omega);have u1:k+1+(m+1)<d.size:=by omega
     have u2:k+1+m<d.size:=by omega
     have u3:m<N:=by omega
     have w1:IntKind.i64.wrap (((m+1:Nat):Int) - 1)=(m:Int):=by rw[wrap64 (by omega) (by omega)];omega
     have w2:IntKind.i64.wrap (((m+1:Nat):Int)+1)=((m+1+1:Nat):Int):=by rw[wrap64 (by omega) (by omega)];omega
     have w3:IntKind.i64.wrap ((C.length:Int)+1)=((C.length+1:Nat):Int):=by rw[wrap64 (by omega) (by omega)];omega
     refine Qe hb ?_;simp only[go_sem,Qa,ZB,Vc,em];apply QH hb [0,1,2,3,4,5,6,7,8,9];simp only[go_sem,Qa,ZB,Vc,Jd,w1,cm,u1,u2,u3,r1,r2];by_cases cq:d[k+1+(m+1)]! = d[k+1+m]!
     ·have nq:(d[k+1+(m+1)]! != d[k+1+m]!)=false:=by rw[cq];exact bne_self_eq_false _
      rw[Qf cq]at GW;simp only[go_sem,nq,w2];rw[GW];refine⟨by omega,_,?_,d1,Jd,by omega,by omega,NS,GV,rfl⟩;rw[<- hH];exact QQ
     ·have nq:(d[k+1+(m+1)]! != d[k+1+m]!)=true:=bne_iff_ne.mpr cq;have u4:C.length<d.size:=by omega
      rw[Qd cq]at GW;simp only[go_sem,nq,w2,w3,Qa,ZB,Vc,Jd,u1,cm,u4,r1];rw[QzZ g d1 _ _ _ Jd u4,GW];refine⟨by omega,_,?_,d1.setIfInBounds C.length d[k+1+(m+1)]!,by simp;exact Jd,by omega,by simp;omega,λi hi=>?_,λj hj=>?_,rfl⟩
      ·rw[<- hH,JS,Zj,jf];exact QQ
      ·simp only[Zj,jf]at hi;by_cases e:i=C.length
       ·subst e;rw[Ze,Kf (QB _),Ee];simp[Jd,u4]
       ·rw[Ze,JD (by omega),<- Ze,<- NS i (by omega)];simp[Q8 e,OI,y6,A7]
      ·simp only[Zj,jf]at hj;rw[<- GV j (by omega)];simp[show C.length≠j by omega,OI,y6,A7]
    ·have em:decide (m+1<N)=false:=QN cm;have q6:k+1+(m+1)=d.size:=by omega
     rw[q6]at hC;rw[hC];have g1:C.length<=d.size:=by omega
     have g2:((d.size:Int) - (C.length:Int)).toNat=d.size - C.length:=by omega
     refine Qe hb ?_;simp only[go_sem,Qa,ZB,Vc,em];refine Qe hb ?_;simp only[go_sem,Qa,ZB,Vc,Jd,g1,g2];refine uv BE hb rfl ZB rfl rfl rfl rfl (by dsimp only[Zs];omega) rfl rfl rfl rfl ?_;refine Qe hb ?_;simp only[go_sem,Qa,Qs Vc,Vc,Jd,g1];refine⟨by simp,zL C.length (d.size - C.length) [D.raw (.int .u64 0)] (DC d1),?_,λi hi=>?_,λi=>?_⟩
     ·rw[<- hH,JS]
     ·rw[ur hi];show [uI d1[i]!]=_;rw[NS i hi];rfl
     ·unfold zL;cases Nat.ble C.length i&&Nat.blt i (C.length+(d.size - C.length))
      ·exact⟨d1[i]!,rfl⟩
      ·exact⟨0,rfl⟩
   ·have NR:(d[k+1]! == d[k]!)=false:=beq_eq_false_iff_ne.mpr YS;simp only[go_sem,NR,v2];refine⟨by omega,_,?_,by omega,?_,rfl⟩
    ·exact QQ
    ·rw[cN,Qd (by simpa using YS)];simp[ZP]
  ·have ek:decide (k+1<d.size)=false:=QN ck;obtain Jc:k+1=d.size:=by omega
   rw[Jc]at ZP;refine Qe hb ?_;simp only[go_sem,Qa,ho,Qg,ek];apply Zi hb;rw[ZP];exact⟨rfl,DC d,(xD ho).symm,λi hi=>by rw[NQ _ _ ZP i hi];rfl,λi=>⟨_,rfl⟩⟩
def GX:IntKind.i64.wrap 1=1:=by decide
def Ff:IntKind.i64.wrap 0=0:=by decide
def QkH(F:List Ob)(f nf:Nat)(QI:List D)(g:Nc->Bool):Prop:=∀(h:List Ob) (c:Nc),Vt F h->QV prog f h (JT nf QI [EZ c]) (λd=>d=QJ (g c))
def NT(g:Nc->Bool)(l:List Nc):Int:=match l.findIdx? g with
 | some i=>i
 | none=>-1
def Qz2{g}{l:List Nc}{k}(hk:k<l.length)(h:∀i,i<k->g (l.getD i default)=false)(hg:g (l.getD k default)=true):NT g l=k:=by
 have e:l.findIdx? g=some k:=by
  rw[Hz];refine⟨hk,by simpa[Ze,hk] using hg,λi hi=>?_⟩;have:=h i hi;simpa[Ze,show i<l.length by omega] using this
 rw[NT,e]
def Qz3{g}{l:List Nc}(h:∀i,i<l.length->g (l.getD i default)=false):NT g l=-1:=by
 have e:l.findIdx? g=none:=by
  rw[Mi];intro x hx;obtain⟨i,hi,rfl⟩:=y9 hx;have:=h i hi;simpa[Ze,hi] using this
 rw[NT,e]
def Qz4(g)(l:List Nc):decide (0<=NT g l)=l.any g:=by
 unfold NT;cases h:l.findIdx? g with
 | some i=>
  obtain⟨h1,h2,_⟩:=Hz.1 h;have e:l.any g=true:=Eb.2 ⟨_,qK h1,h2⟩;rw[e];simp
 | none=>
  have:=Mi.1 h;have e:l.any g=false:=by rw[List.any_eq_false];intro x hx;simp[this x hx]
  rw[e];decide
section
variable (h:List Ob)(l:List Nc)(hlen:l.length<1048576)
include hlen
theorem Qz5(so:D)(f nf:Nat)(QI:List D)(hf:Qo prog f)(V8:KM so=some (f,nf,QI))(gk:Nc->Bool)(hg:QkH (h.map Ob.ro) f nf QI gk):
  QV prog 282 h [YD l,so] (λd=>d=Qb (NT gk l)):=by
 refine Zq Qi 200 func282 rfl ntmps282 results282 rfl λbase w pl F hF Q3 hb=>?_;simp only[go_sem,Qa];refine Jg (λk s=>(∀i,i<k->gk (l.getD i default)=false)/\s=⟨[(0,YD l),(1,so),(7,Qb l.length),(8,Qb k)],F⟩) l.length QQ ⟨λi hi=>absurd hi (by omega),rfl⟩ ?_;rintro k s hk ⟨hn,rfl⟩;apply QC hb;have QT:=JX (show k<4611686018427387904 by omega);first|refine YU hk (λQj=>?_) (λQj=>?_)|refine qu hk (λQj=>?_) (λQj=>?_)
 ·simp only[go_sem,Qa,Qj];refine Z8 hb hf V8 ?_ (hg F (l.getD k default) (by rw[<- hF];exact Vt.refl F)) rfl λd2 hR=>?_
  ·simp only[go_sem];exact ER _
  subst hR;refine Qe hb ?_;cases kR:gk (l.getD k default)
  ·simp only[go_sem,Qa];refine⟨Qj,_,Qp.frame (fr':=[(0,YD l),(1,so),(7,Qb l.length),(8,Qb (k+1:Nat))]) (by simp only[go_sem,QT]),λi hi=>?_,rfl⟩;by_cases h1:i<k
   ·exact hn i h1
   ·have:i=k:=by omega
    subst this;exact kR
  ·rw[Qz2 Qj hn kR];simp only[go_sem,Qa];exact⟨[],(QU F).symm⟩
 ·have Qj:k=l.length:=by omega
  subst Qj;simp only[go_sem,YP];rw[Qz3 hn];apply QC hb;exact⟨[],(QU F).symm⟩
theorem Qz6(so:D)(f nf:Nat)(QI:List D)(hf:Qo prog f)(V8:KM so=some (f,nf,QI))(gk:Nc->Bool)(hg:QkH (h.map Ob.ro) f nf QI gk):
  QV prog 236 h [YD l,so] (λd=>d=QJ (l.any gk)):=by
 rw[<- Qz4];refine Zq Qi 200 func236 rfl ntmps236 results236 rfl λbase w pl F hF Q3 hb=>?_;simp only[go_sem,Qa];refine Z8 hb Qv3 rfl ?_ (Qz5 F l hlen so f nf QI hf V8 gk (λh' n hx=>?_)) rfl λd2 hR=>?_
 ·simp only[go_sem];exact Df so
 ·rw[hF,ud]at hx;exact hg h' n hx
 subst hR;apply QC hb;exact⟨[],(QU F).symm⟩
end
def Qz7(h)(c:Nc):QV prog 237 h [EZ c] (λd=>d=QJ (c.of==0)):=by
 refine Zq Qi 200 func237 rfl ntmps237 results237 rfl λbase w pl F hF Q3 hb=>?_;simp only[go_sem,Qa];refine Ax hb PY (Qal c.a c.d c.b) (Qn.flat rfl) λd h hR=>?_;obtain⟨rfl,rfl⟩:=hR;apply QC hb;refine⟨_,rfl,?_⟩;simp only[bne,Bool.not_not];rfl
def QkI(l:List Nc):Bool:=l.any λc=>c.of==0
def BY(t:Int)(l:List Nc):Int:=if t<1\/65536<t then 1 else if QkI l=true then 21 else 0
def m6(t)(l:List Nc)(hl:l.length<1048576):Q4 prog 188 [Qb t,YD l] (Qn (Qb (BY t l))):=by
 have hcf:=Qz6 [] l hl (.raw (.func (.func 237) ⟨[]⟩ ⟨[]⟩)) 237 0 [] QvN rfl (λc=>c.of==0) (λh' c _=>Qz7 h' c);rw[show (l.any λc=>c.of==0)=QkI l from rfl]at hcf;refine ZA 0 Qi 200 func188 rfl ntmps188 results188 rfl λbase w hb=>?_;simp only[go_sem]
 repeat' (first|((first|refine zE (λh=>?_) (λh=>?_)|refine zF (λh=>?_) (λh=>?_)|refine zG (λh=>?_) (λh=>?_)|refine XS (λh=>?_) (λh=>?_)|refine zH (λh=>?_) (λh=>?_)|refine zI (λh=>?_) (λh=>?_)|refine zJ (λh=>?_) (λh=>?_)|refine zD (λh=>?_) (λh=>?_))<;>(try simp only[go_sem,Go.undef]))|(refine And.intro (by first|assumption|omega) ?_;try simp only[go_sem,Go.undef])|(refine Z8 hb QvM rfl ?_ (hcf) rfl ?_;(· simp only[go_sem,Qa,Go.undef]);intro d hR;subst hR;refine Qe hb ?_;simp only[go_sem,Qa,Go.undef])|fail)
 all_goals (congr 2;unfold BY;simp_all;try omega)
end Go.Fg.X
namespace Go.Fg.X
open Go.Proofs Go.Fg
open Go.RowKit (Below)
open Go.Proofs.Tryz
def Zv.nil{Z}{base}{w}:Zv Z base [] [] w:=⟨rfl,λl l' b q q' e1 e2=>by simp at e1,λl o e=>by simp at e,λl o b q e=>by simp at e⟩
def Qz8{P}{f}{args}{R}(d2:D)(hu:d2.upto 0=true)
  (hd:∀d hh,R d hh->J3 6 d d2\/∃lo g sz n row,hh[lo]? = some ⟨.arr,g,sz,n,row⟩/\(∀i,i<n->(row i).all D.WS=true)/\J3 6 (D.fz lo g n sz row d) d2) (h:Q4 P f args R):Q4 P f args (Qn d2):=by
 intro Z base w pl vs h1 h2 h3 hl hc;have Zk:pl=[]:=by have:=h3.len;simpa using this
 subst Zk;refine(h Z base w [] vs h1 h2 h3 hl hc).mono λe w' he=>?_;obtain⟨v,d,hh,Qm,rfl,hR,hO,hV,hT,hB⟩:=he;suffices fin:QE Z [] [] w' d2 v by
  exact⟨v,_,[],[],rfl,⟨rfl,rfl⟩,Zv.nil,fin,⟨λb hb Qc=>⟨hb,(hT.KE b hb Qc).2⟩,λl o p e=>by simp at e,λl o o' b q e=>by simp at e⟩,hB⟩
 rcases hd _ _ hR with hle|⟨lo,g,sz,n,row,Zm,ZP,hle⟩
 ·exact(yj 6 hle hV).take hu
 have Qc:lo<Qm.length:=by rw[hO.len];exact(Xd.1 Zm).1
 obtain⟨p,hp⟩:∃p,Qm[lo]? = some p:=⟨_,QW Qc⟩;have yD:=hV.fz (l:=lo) (o:=⟨.arr,g,sz,n,row⟩) (p:=p) Zm hp rfl (λb q e=>by
  subst e;refine⟨h2 b ?_,λl' q' e'=>?_,(hO.at_ lo _ b q Zm hp).2.cells rfl⟩
  ·rcases Bb b w.heap.size with Qc|XP
   ·exact absurd hp ((hT.KE b (λi q e=>by simp at e) Qc).1 lo q)
   ·exact XP
  ·exact hO.inj _ _ _ _ _ e' hp) ZP (h':=hh.set lo (Ob.gone ⟨.arr,g,sz,n,row⟩)) (λl' o' Qz e=>by
  exact⟨o',by rw[JJ (Q8 Qz)];exact e,rfl,rfl,rfl⟩)
 exact(yj 6 hle yD).take hu
end Go.Fg.X
namespace Go.Fg
def Kd.QkK(k:Kd):k.Ui k:=by cases k<;>simp[Kd.Ui,Kd.ty]
def QkL(o):Pm o o:=⟨rfl,rfl,rfl,Kd.QkK _,λ_ _=>rfl⟩
def QkM:∀h:List Ob,CP h h
 | []=>trivial
 | o::r=>⟨QkL o,QkM r⟩
def QkN:∀{h:List Ob} {l:Nat} {o:Ob} (KO:Nat->List D),h[l]? = some o->(∀i,i<o.n->o.row i=KO i)->CP h (h.set l ⟨o.kd,o.gen,o.sz,o.n,KO⟩)
 | [],l,o,KO,e,_=>by simp at e
 | x::r,0,o,KO,e,he=>by
  simp only[List.getElem?_cons_zero,Za]at e;subst e;exact⟨⟨rfl,rfl,rfl,Kd.QkK _,λi hi=>(he i hi).symm⟩,QkM r⟩
 | x::r,l+1,o,KO,e,he=>⟨QkL x,QkN (h:=r) KO (by simpa using e) he⟩
def Qp.rows{w0}{fr}{h:List Ob}(l){o:Ob}(KO)(ho:h[l]? = some o)(he:∀i,i<o.n->o.row i=KO i):Qp w0 ⟨fr,h⟩ ⟨fr,h.set l ⟨o.kd,o.gen,o.sz,o.n,KO⟩⟩:=(Wk.Ih (QkN KO ho he)).up
end Go.Fg
namespace Go.Fg.X
open Go.Proofs Go.Fg
open Go.Proofs.Tryz
def GY(c:Nc):Bool:=c.of==3 || c.of==4
def XH(l:List Nc):List Int:=(l.filter GY).map λc=>(c.d:Int)
def Qz9(l:List Nc)(i)(h:i<l.length):XH (l.take (i+1))=if GY (l.getD i default)=true then XH (l.take i)++[((l.getD i default).d:Int)] else XH (l.take i):=by
 unfold XH;rw[Ed,QW h];simp only[Option.toList_some,Tn,Ze,QW h,KA,jN];by_cases hg:GY l[i]=true
 ·rw[Qf hg,Tq hg];rfl
 ·rw[Qd hg,Tp hg];simp
def Qa4(l:List Nc)(i):(XH (l.take i)).length<=i:=by
 have:=qL GY (l.take i);simp only[XH,Kl];simp at this;omega
def vn(l:List Nc):Array Int:=Sort.sort Qv (XH l).toArray
def Xp(l:List Nc):List Int:=cN (λi=>(vn l)[i]!) (vn l).size
def Qa5(l:List Nc):(vn l).size=(XH l).length:=by
 unfold vn Sort.sort;rw[Ld _ _ _ _ _ _ _ (QB _)];rfl
def QAa(l:List Nc):(vn l).toList.Perm (XH l):=by
 have h:=(Sort.sort_sorts Qv QkA (XH l).toArray).1.2.2;have e1:((Sort.sort Qv (XH l).toArray).extract 0 (XH l).toArray.size).toList=(vn l).toList:=by
  have:=Qa5 l;unfold vn at this ⊢;rw[show (XH l).toArray.size=(Sort.sort Qv (XH l).toArray).size from this.symm];simp
 rw[e1]at h;simpa using h
def QAb(l)(x):x∈Xp l↔∃c,c∈l/\GY c=true/\(c.d:Int)=x:=by
 unfold Xp;rw[Qa2];have h1:(∃i,i<(vn l).size/\(vn l)[i]! = x)↔x∈(vn l).toList:=by
  rw[List.mem_iff_getElem];constructor
  ·rintro⟨i,hi,e⟩;exact⟨i,by simpa using hi,by rw[<- e,OI,y6,kv hi];simp⟩
  ·rintro⟨i,hi,e⟩;have JQ:i<(vn l).size:=by simpa using hi
   exact⟨i,JQ,by rw[<- e,OI,y6,kv JQ];simp⟩
 rw[h1,(QAa l).mem_iff];simp[XH,and_assoc]
@[go_sem] def RO(K:List Int):D:=.imm 1 K.length λi=>[uI (K.getD i 0)]
def QAc{M:List Int}{row}(hr:q5 (λn:Int=>[uI n]) M 0 row):∀i,i<M.length->row i=DC M.toArray i:=λi hi=>by
 have:=hr.at_ i hi;rw[JV]at this;rw[this];unfold DC;simp[Ze,QW hi,hi]
def QAd(l:List Nc)(hl:l.length<1048576):Q4 prog 238 [YD l] (Qn (RO (Xp l))):=by
 refine Qz8 (RO (Xp l)) rfl (?_:∀d hh,(∃g n row,d=.ref 0 g 0 (Xp l).length/\hh=[⟨.arr,g,1,n,row⟩]/\(∀i,i<n->(row i).all D.WS=true)/\(Xp l).length<=n/\∀i,i<(Xp l).length->row i=[uI ((Xp l).getD i 0)])->_) ?_
 ·rintro d hh ⟨g,n,row,rfl,rfl,ZP,hn,ZH⟩;right;refine⟨0,g,1,n,row,rfl,ZP,?_⟩;have e1:D.fz 0 g n 1 row (.ref 0 g 0 (Xp l).length)=.imm 1 (Xp l).length (rowFrom 0 row):=by simp[D.fz,Gf,hn]
  rw[e1];simp only[RO];rw[Uy];refine⟨rfl,rfl,λi hi=>?_⟩;rw[Ip,JV,ZH i hi];exact BD (kP _) _
 refine ZA 1 Qi 200 func238 rfl ntmps238 results238 rfl λbase w hb=>?_;simp only[go_sem];refine Jg (λi s=>∃g row,q5 (λn:Int=>[uI n]) (XH (l.take i)) 0 row/\s=⟨[(3,.ref 0 g 0 (XH (l.take i)).length),(7,YD l),(8,Qb l.length),(9,Qb i)],[⟨.arr,g,1,(XH (l.take i)).length,row⟩]⟩) l.length
  (s0:=⟨[(3,.ref 0 0 0 0),(7,YD l),(8,Qb l.length),(9,Qb 0)],[⟨.arr,0,1,0,λ_=>[]⟩]⟩)
  (Qp.trans (Qp.Bh 3 1 (λi=>[]) rfl) QQ) ⟨0,λ_=>[],.nil,rfl⟩ ?_
 rintro i s hi ⟨g,row,hr,rfl⟩;have ZP:=Qa4 l i;have QT:=JX (show i<4611686018427387904 by omega);apply Zi hb;first|refine YU hi (λQj=>?_) (λQj=>?_)|refine qu hi (λQj=>?_) (λQj=>?_)
 ·obtain⟨M,hM⟩:∃M,M=XH (l.take i):=⟨_,rfl⟩;obtain⟨e,he⟩:∃e,e=l.getD i default:=⟨_,rfl⟩;have ZF:=Qz9 l i Qj;rw[<- hM,<- he]at ZF;rw[<- hM]at hr ZP ⊢;have wz:M.length<=4294967295:=by omega
  have Jp:q5 (λn:Int=>[uI n]) (M++[(e.d:Int)]) 0 (J1 M.length 0 row λ_=>[uI e.d]):=hr.app (e.d:Int) rfl;simp only[go_sem,Qj,<- he];refine Wu hb Gn (ar e.a e.d e.b) (Qn.flat rfl) λd h hR=>?_;obtain⟨rfl,rfl⟩:=hR;apply Zi hb;cases e3:VY e.a e.d e.b==3
  ·cases e4:VY e.a e.d e.b==4
   ·have hb:GY e=false:=by show (VY e.a e.d e.b==3 || VY e.a e.d e.b==4)=false;rw[e3,e4];rfl
    rw[hb,Qd (by decide)]at ZF;simp only[go_sem,e3,e4,Go.undef];repeat (refine And.intro (by omega) ?_)
    refine⟨_,Qp.to 1 ⟨?_,by simp only[go_sem],?_,?_⟩,g,row,by rw[ZF];exact hr,rfl⟩
    ·simp only[go_sem,QT,ZF,Zj,jf]
    ·exact⟨λj hj=>hr.upto (λa=>rfl) j (by have Ws:=hj;simp only[ZF]at Ws;simpa using Ws),trivial⟩
    ·simp only[go_sem,ZF,Zj,jf]
   ·have hb:GY e=true:=by show (VY e.a e.d e.b==3 || VY e.a e.d e.b==4)=true;rw[e3,e4];rfl
    rw[hb,Qf rfl]at ZF;simp only[go_sem,e3,e4,Go.undef,wz];repeat (refine And.intro (by omega) ?_)
    refine⟨_,Qp.to 1 ⟨?_,by simp only[go_sem],?_,?_⟩,g+1,_,by rw[ZF];exact Jp,rfl⟩
    ·simp only[go_sem,QT,ZF,Zj,jf]
    ·exact⟨λj hj=>Jp.upto (λa=>rfl) j (by have Ws:=hj;simp only[ZF]at Ws;simpa using Ws),trivial⟩
    ·simp only[go_sem,ZF,Zj,jf]
  ·have hb:GY e=true:=by show (VY e.a e.d e.b==3 || VY e.a e.d e.b==4)=true;rw[e3];rfl
   rw[hb,Qf rfl]at ZF;simp only[go_sem,e3,Go.undef,wz];repeat (refine And.intro (by omega) ?_)
   refine⟨_,Qp.to 1 ⟨?_,by simp only[go_sem],?_,?_⟩,g+1,_,by rw[ZF];exact Jp,rfl⟩
   ·simp only[go_sem,QT,ZF,Zj,jf]
   ·exact⟨λj hj=>Jp.upto (λa=>rfl) j (by have Ws:=hj;simp only[ZF]at Ws;simpa using Ws),trivial⟩
   ·simp only[go_sem,ZF,Zj,jf]
 ·have h1:i=l.length:=by omega
  subst h1;rw[YO]at hr ⊢;have JP:(XH l).toArray.size=(XH l).length:=rfl;have Ju:(XH l).length<=l.length:=by have:=Qa4 l l.length;rw[YO]at this;exact this
  have m7:=Qa5 l;have hcn:=RN (λi=>(vn l)[i]!) (vn l).size;apply Zi hb;refine kO (Qp.rows 0 (DC (XH l).toArray) (by exact rfl) ?_) ?_
  ·intro i hi;dsimp only at hi ⊢;exact QAc hr i hi
  simp only[go_sem];refine VH hb Qv4 rfl ?_ (QzY (h:=[Zs g (XH l).toArray]) (lo:=0) (g:=g) (d:=(XH l).toArray) rfl (by rw[JP];omega)) rfl λd h hR=>?_
  ·simp only[go_sem,HC]
  obtain⟨rfl,t,rfl⟩:=hR;refine Qe hb ?_;simp only[go_sem,HC];refine Jh hb Qv5 (m7▸Qz0 (h:=[Zs g (XH l).toArray].set 0 (Zs g (vn l))++t) (lo:=0) (g:=g) (d:=vn l) rfl (by omega)) λd h hR=>?_;obtain⟨rfl,j6,rfl,QAf,KS⟩:=hR;apply Zi hb;refine⟨λi hi=>?_,g,(XH l).length,j6,?_,rfl,λi hi=>?_,?_,?_⟩
  ·obtain⟨x,hx⟩:=KS i;rw[hx];rfl
  ·unfold Xp;rw[m7]
  ·obtain⟨x,hx⟩:=KS i;rw[hx];rfl
  ·unfold Xp;omega
  ·intro i hi;have:=QAf i (by unfold Xp at hi;rw[m7]at hi;exact hi);rw[this];unfold Xp;rw[m7];rfl
def QAg(F:List Ob)(f nf:Nat)(QI:List D)(K:List Int)(g:Int->Bool):Prop:=∀(h:List Ob) (x:Int),x∈K->Vt F h->QV prog f h (JT nf QI [uI x]) (λd=>d=QJ (g x))
def yL(g:Int->Bool)(l:List Int):Int:=match l.findIdx? g with
 | some i=>i
 | none=>-1
def QAh{g}{l:List Int}{k}(hk:k<l.length)(h:∀i,i<k->g (l.getD i 0)=false)(hg:g (l.getD k 0)=true):yL g l=k:=by
 have e:l.findIdx? g=some k:=by
  rw[Hz];refine⟨hk,by simpa[Ze,hk] using hg,λi hi=>?_⟩;have:=h i hi;simpa[Ze,show i<l.length by omega] using this
 rw[yL,e]
def QAi{g}{l:List Int}(h:∀i,i<l.length->g (l.getD i 0)=false):yL g l=-1:=by
 have e:l.findIdx? g=none:=by
  rw[Mi];intro x hx;obtain⟨i,hi,rfl⟩:=y9 hx;have:=h i hi;simpa[Ze,hi] using this
 rw[yL,e]
def QAj(g)(l:List Int):decide (0<=yL g l)=l.any g:=by
 unfold yL;cases h:l.findIdx? g with
 | some i=>
  obtain⟨h1,h2,_⟩:=Hz.1 h;have e:l.any g=true:=Eb.2 ⟨_,qK h1,h2⟩;rw[e];simp
 | none=>
  have:=Mi.1 h;have e:l.any g=false:=by rw[List.any_eq_false];intro x hx;simp[this x hx]
  rw[e];decide
def QAk{g}{l:List Int}(h:0<=yL g l):(yL g l).toNat<l.length:=by
 unfold yL at h ⊢;cases e:l.findIdx? g with
 | some i=>obtain⟨h1,_⟩:=Hz.1 e;simpa using h1
 | none=>rw[e]at h;simp at h
def QAl{l:List Int}{i}(h:i<l.length):l.getD i 0∈l:=by
 rw[Ze,QW h];exact qK h
section
variable (h:List Ob)(K:List Int)(hlen:K.length<1048576)
include hlen
theorem QAm(so:D)(f nf:Nat)(QI:List D)(hf:Qo prog f)(V8:KM so=some (f,nf,QI))(gk:Int->Bool)(hg:QAg (h.map Ob.ro) f nf QI K gk):
  QV prog 239 h [RO K,so] (λd=>d=Qb (yL gk K)):=by
 refine Zq Qi 200 func239 rfl ntmps239 results239 rfl λbase w pl F hF Q3 hb=>?_;simp only[go_sem,Qa];refine Jg (λk s=>(∀i,i<k->gk (K.getD i 0)=false)/\s=⟨[(0,RO K),(1,so),(7,Qb K.length),(8,Qb k)],F⟩) K.length QQ ⟨λi hi=>absurd hi (by omega),rfl⟩ ?_;rintro k s hk ⟨hn,rfl⟩;apply QC hb;have QT:=JX (show k<4611686018427387904 by omega);first|refine YU hk (λQj=>?_) (λQj=>?_)|refine qu hk (λQj=>?_) (λQj=>?_)
 ·simp only[go_sem,Qa,Qj];refine Z8 hb hf V8 ?_ (hg F (K.getD k 0) (QAl Qj) (by rw[<- hF];exact Vt.refl F)) rfl λd2 hR=>?_
  ·simp only[go_sem];exact ER _
  subst hR;refine Qe hb ?_;cases kR:gk (K.getD k 0)
  ·simp only[go_sem,Qa];refine⟨Qj,_,Qp.frame (fr':=[(0,RO K),(1,so),(7,Qb K.length),(8,Qb (k+1:Nat))]) (by simp only[go_sem,QT]),λi hi=>?_,rfl⟩;by_cases h1:i<k
   ·exact hn i h1
   ·have:i=k:=by omega
    subst this;exact kR
  ·rw[QAh Qj hn kR];simp only[go_sem,Qa];exact⟨[],(QU F).symm⟩
 ·have Qj:k=K.length:=by omega
  subst Qj;simp only[go_sem,YP];rw[QAi hn];apply QC hb;exact⟨[],(QU F).symm⟩
end
def QAn(l:List Nc):(Xp l).length<=l.length:=by
 have h1:=RN (λi=>(vn l)[i]!) (vn l).size;have h2:=Qa5 l;have h3:=Qa4 l l.length;rw[YO]at h3;unfold Xp;omega
def QAo{l}{x}(hx:x∈Xp l):∃n:Nat,x=(n:Int)/\0<n/\n<=1048576:=by
 obtain⟨c,h1,h2,h3⟩:=(QAb l x).1 hx;refine⟨c.d,h3.symm,?_⟩;unfold GY Nc.of VY at h2;simp only[Cr,vG]at h2
 repeat' split at h2
 all_goals first|omega|(exfalso;revert h2;decide)|skip
def aP(l:List Nc)(k:Nat):Nat:=E0 (λc=>yH c.a c.d c.b k) l
def DG(t:Nat)(l:List Nc)(x:Int):Bool:=decide (65536*x.toNat<aP l x.toNat*t)
def QAp{l:List Nc}(hl:l.length<1048576)(hc:∀c∈l,c.Lt){k}(hk:k<=1048576):aP l k<2 ^ 111:=by
 have h1:=mG (g:=λc=>yH c.a c.d c.b k) (M:=2 ^ 60) (λc h=>by
  show yH c.a c.d c.b k<=_;unfold yH;split
  ·decide
  ·rename_i h0;obtain⟨b1,b2,b3⟩:=Qak h0;have e1:c.a*min k c.d<=4294967295*1048576:=vF b1 (by omega);have e2:c.b*(k - min k c.d)<=4294967295*1048576:=vF b2 (by omega);omega) (l:=l) (s:=0) hc
 have h2:=qN (2 ^ 60) (show l.length<=1048576 by omega);unfold aP E0;omega
def Qa6(t:Nat)(l:List Nc):Bool:=decide (65536<E0 (λc=>c.b) l*t)
def Qa7(t:Nat)(l:List Nc):Bool:=(Xp l).any (DG t l) || Qa6 t l
def Qa8(t:Nat)(l:List Nc):D:=if (Xp l).any (DG t l)=true then .tup [uI ((Xp l).getD (yL (DG t l) (Xp l)).toNat 0),QJ true] else .tup [u64 0,QJ (Qa6 t l)]
def QAq{l:List Nc}(hl:l.length<1048576)(hc:∀c∈l,c.Lt):E0 (λc=>c.b) l<2 ^ 111:=by
 have h1:=mG (g:=λc=>c.b) (M:=2 ^ 64) (λc h=>by have:=h.2.2;omega) (l:=l) (s:=0) hc;have h2:=qN (2 ^ 64) (show l.length<=1048576 by omega);unfold E0;omega
def QAr(h:List Ob)(t:Nat)(l:List Nc)(hl:l.length<1048576)(hc:∀c∈l,c.Lt)(ht:t<=65536)(b1 b2:Nat)(h1:(h.map Ob.ro)[b1]? = some ⟨.Wn,0,1,1,λ_=>[YD l]⟩)(h2:(h.map Ob.ro)[b2]? = some ⟨.Wn,0,1,1,λ_=>[Qb t]⟩)(n:Nat)(hn:n<=1048576):
  QV prog 240 h [uI n,.ptr b1 0 0 0,.ptr b2 0 0 0] (λd=>d=QJ (DG t l n)):=by
 have hs:Q4 prog 242 [YD l,u64 n] (Qn (num (aP l n))):=QyG l n (by omega) hl hc;have ha:=QjS (aP l n) t n (QAp hl hc hn) ht (by omega);refine Zq Qi 200 func240 rfl ntmps240 results240 rfl λbase w pl F hF Q3 hb=>?_;rw[<- hF]at h1 h2;have QO:=Qc h1;have K9:=Qc h2;simp only[go_sem,Qa,h1,QO,h2,K9];apply QH hb [0,1,3,4,1002,1005,6];simp only[go_sem,Qa,h1,QO,h2,K9];refine Vj hb QvR rfl ?_ hs (Qn.flat rfl) rfl λd h hR=>?_
 ·simp only[go_sem,Qa,h1,QO,h2,K9]
 obtain⟨rfl,rfl⟩:=hR;refine Zr hb ?_;simp only[go_sem,Qa,h1,QO,h2,K9];refine Rp hb QhY ha (Qn.flat rfl) λd h hR=>?_;obtain⟨rfl,rfl⟩:=hR;apply XF hb;exact⟨[],(QU F).symm,rfl⟩
def QAs(t:Nat)(l:List Nc)(hl:l.length<1048576)(hc:∀c∈l,c.Lt)(hm:BY t l=0):Q4 prog 189 [Qb t,YD l] (Qn (Qa8 t l)):=by
 have ht:t<=65536:=by unfold BY at hm;split at hm;cases hm;omega
 have Vo:=QjS (E0 (λc=>c.b) l) t 1 (QAq hl hc) ht (by decide);have e0:(BY t l != 0)=false:=by rw[hm];rfl
 have U1:=QAn l;refine ZA 0 Qi 200 func189 rfl ntmps189 results189 rfl λbase w hb=>?_;simp only[go_sem];refine ZW hb ld rfl ?_ (m6 t l hl) (Qn.flat rfl) rfl λd h hR=>?_
 ·simp only[go_sem,e0]
 obtain⟨rfl,rfl⟩:=hR;refine Qe hb ?_;simp only[go_sem,e0];refine Zu hb [] QvO rfl ?_ (QAd l hl) rfl λd h hR=>?_
 ·simp only[go_sem]
 obtain⟨rfl,rfl⟩:=hR;simp only[go_sem];apply Zi hb;have l7:=QAm [⟨.one,0,1,1,λ_=>[Qb t]⟩,⟨.one,0,1,1,λ_=>[YD l]⟩] (Xp l) (by omega) (.clo 240 0 [.ptr 1 0 0 0,.ptr 0 0 0 0]) 240 0 [.ptr 1 0 0 0,.ptr 0 0 0 0] QvQ rfl (DG t l) (λh' x hx hF'=>by
  obtain⟨n,rfl,AH,KX⟩:=QAo hx;obtain⟨g',rfl⟩:=hF';exact QAr _ t l hl hc ht 1 0 rfl rfl n KX)
 refine Z8 hb QvP rfl ?_ l7 rfl λd2 hR=>?_
 ·simp only[go_sem];try exact ER _
 subst hR;have Gx:=QAj (DG t l) (Xp l);unfold Qa8;cases hA:(Xp l).any (DG t l)
 ·rw[hA]at Gx;rw[Qd (by decide)];refine Qe hb ?_;simp only[go_sem,Gx];apply QH hb [0,2,1001,1003,4,5];simp only[go_sem];refine VX hb QvS (QyE l hl hc) (Qn.flat rfl) λd h hR=>?_;obtain⟨rfl,rfl⟩:=hR;apply WW hb;refine VX hb QhY Vo (Qn.flat rfl) λd h hR=>?_;obtain⟨rfl,rfl⟩:=hR;apply WW hb;rfl
 ·rw[hA]at Gx;rw[Qf rfl];have h0:0<=yL (DG t l) (Xp l):=Wc Gx;have h1:=QAk h0;obtain⟨j,hj⟩:∃j:Nat,yL (DG t l) (Xp l)=(j:Int):=⟨(yL (DG t l) (Xp l)).toNat,by omega⟩;rw[hj]at Gx h1 ⊢;rw[Int.toNat_natCast]at h1;refine Qe hb ?_;simp only[go_sem,Gx,hj,h1];first|rfl|exact⟨rfl,rfl⟩|trace_state
def Fh(t:Int)(l:List Nc):Int:=if BY t l≠0 then BY t l else if Qa7 t.toNat l=true then 22 else 0
def QAu(t)(l:List Nc)(hl:l.length<1048576)(hc:∀c∈l,c.Lt):Q4 prog 153 [Qb t,YD l] (Qn (Qb (Fh t l))):=by
 by_cases hm:BY t l=0
 ·have ht:∃n:Nat,t=(n:Int):=⟨t.toNat,by unfold BY at hm;split at hm;cases hm;omega⟩;obtain⟨n,rfl⟩:=ht;have e0:(BY n l != 0)=false:=by rw[hm];rfl
  have e:Fh n l=if Qa7 n l=true then 22 else 0:=by rw[Fh,Qd (by simpa using hm)];rfl
  rw[e];have hF:=QAs n l hl hc hm;unfold Qa8 at hF;unfold Qa7;cases hA:(Xp l).any (DG n l)
  ·rw[hA,Qd (by decide)]at hF;rw[OK];refine ZA 0 Qi 200 func153 rfl ntmps153 results153 rfl λbase w hb=>?_;simp only[go_sem];refine ZW hb ld rfl ?_ (m6 n l hl) (Qn.flat rfl) rfl λd h hR=>?_
   ·simp only[go_sem,e0]
   obtain⟨rfl,rfl⟩:=hR;refine Qe hb ?_;simp only[go_sem,e0];refine Wu hb QhS hF (Qn.flat rfl) λd h hR=>?_;obtain⟨rfl,rfl⟩:=hR;apply Zi hb;cases Qa6 n l
   ·simp only[go_sem]
   ·simp only[go_sem]
  ·rw[hA,Qf rfl]at hF;rw[Bool.true_or,Qf rfl];refine ZA 0 Qi 200 func153 rfl ntmps153 results153 rfl λbase w hb=>?_;simp only[go_sem];refine ZW hb ld rfl ?_ (m6 n l hl) (Qn.flat rfl) rfl λd h hR=>?_
   ·simp only[go_sem,e0]
   obtain⟨rfl,rfl⟩:=hR;refine Qe hb ?_;simp only[go_sem,e0];refine Wu hb QhS hF (Qn.flat rfl) λd h hR=>?_;obtain⟨rfl,rfl⟩:=hR;exact qY hb
 ·have e0:(BY t l != 0)=true:=by simpa using hm
  have e:Fh t l=BY t l:=by rw[Fh,Qf hm]
  rw[e];refine ZA 0 Qi 200 func153 rfl ntmps153 results153 rfl λbase w hb=>?_;simp only[go_sem];refine ZW hb ld rfl ?_ (m6 t l hl) (Qn.flat rfl) rfl λd h hR=>?_
  ·simp only[go_sem,e0]
  obtain⟨rfl,rfl⟩:=hR;refine Qe hb ?_;simp only[go_sem,e0]
end Go.Fg.X
namespace Go.Fg.X
open Go.Proofs Go.Fg
end Go.Fg.X
namespace Go.Fg.X
open Go.Proofs Go.Fg
end Go.Fg.X
namespace Go.Fg.X
open Go.Proofs Go.Fg
end Go.Fg.X
namespace Go.Fg.X
open Go.Proofs Go.Fg
end Go.Fg.X
namespace Go.Fg.X
open Go.Proofs Go.Fg
open Go.Proofs.Tryz
@[go_sem] def oDg(n:Nat):Ob:=⟨.one,0,4,1,λ_=>[u64 (d0 n),u64 (d1 n),u64 (d2 n),u64 (d3 n)]⟩
end Go.Fg.X
namespace Go.Fg.X
open Go.Proofs Go.Fg
end Go.Fg.X
namespace Go.Fg.X
open Go.Proofs Go.Fg
open Go.Proofs.Tryz
def QkO:IntKind.i64.wrap 2=2:=by decide
end Go.Fg.X
namespace Go.Fg.X
open Go.Proofs Go.Fg
end Go.Fg.X
namespace Go.Fg.X
open Go.Proofs Go.Fg
open Go.RowKit (Below)
end Go.Fg.X
namespace Go.Fg.X
open Go.Proofs Go.Fg
end Go.Fg.X
namespace Go.Fg.X
open Go.Proofs Go.Fg
end Go.Fg.X
namespace Go.Fg.X
open Go.Proofs Go.Fg
open Go.Proofs.Tryz
def QkP{α:Type}[Inhabited α](L:List α)(g)(i:Nat)(h:i<L.length):(L.take (i+1)).filter g=if g (L.getD i default)=true then (L.take i).filter g++[L.getD i default] else (L.take i).filter g:=by
 rw[Ed,QW h];simp only[Option.toList_some,Tn,Ze,QW h,KA];by_cases hg:g L[i]=true
 ·rw[Qf hg,Tq hg];rfl
 ·rw[Qd hg,Tp hg];simp
def QAy{α:Type}(L:List α)(g:α->Bool)(i:Nat):((L.take i).filter g).length<=i:=by
 have:=qL g (L.take i);simp at this;omega
end Go.Fg.X
namespace Go.Fg.X
open Go.Proofs Go.Fg
end Go.Fg.X
namespace Go.Fg.X
open Go.Proofs Go.Fg
open Go.Proofs.Tryz
def Qac(F:List Ob)(lo:Nat)(f nf:Nat)(QI:List D)(g:Int->Bool):Prop:=∀(h:List Ob) (n:Int),F.length<=h.length->(∀l,l<F.length->l≠lo->h[l]? = F[l]?)->QV prog f h (JT nf QI [Qb n]) (λd=>d=QJ (g n))
def xF(g:Int->Bool)(l:List Int):List Int:=l.filter λx=>!g x
def QAz{g}{l:List Int}:(yv g l=-1/\xF g l=l)\/∃i,i<l.length/\yv g l=(i:Int)/\g (l.getD i 0)=true/\(l.take (i+1)).filter (λx=>!g x)=l.take i:=by
 unfold yv;cases h:l.findIdx? g with
 | none=>
  refine .inl ⟨rfl,y7.2 λx hx=>?_⟩;simp[Mi.1 h x hx]
 | some i=>
  obtain⟨h1,h2,h3⟩:=Hz.1 h;refine .inr ⟨i,h1,rfl,by simpa[Ze,h1] using h2,?_⟩;rw[QkP l _ i h1,Qd (by simpa[Ze,h1] using h2)];refine y7.2 λx hx=>?_;obtain⟨j,hj,rfl⟩:=y9 hx;simp at hj;simpa using h3 j (by omega)
section
variable (h:List Ob)(l:List Int)(lo gn off:Nat)(row:Nat->List D)(hlen:l.length<1000000)(ho:h[lo]? = some ⟨.arr,gn,1,off+l.length,row⟩)(hr:∀i,i<l.length->row (off+i)=[Qb (l.getD i 0)])
include hlen ho hr
theorem QwO(so:D)(f nf:Nat)(QI:List D)(hf:Qo prog f)(V8:KM so=some (f,nf,QI))(gk:Int->Bool)(hg:Qac h lo f nf QI gk)(uo:Qac (h.map Ob.ro) lo f nf QI gk):
  QK prog 88 h [.ref lo gn off l.length,so] (λd h'=>d=.ref lo gn off (xF gk l).length/\∃KO,h'=h.set lo ⟨.arr,gn,1,off+l.length,KO⟩/\∀i,i<(xF gk l).length->KO (off+i)=[Qb ((xF gk l).getD i 0)]):=by
 refine Q6 Qi 200 func88 rfl ntmps88 results88 rfl λbase w pl hb=>?_;have Qg:=Qc ho;simp only[go_sem,Qa,ho,Qg];refine Z8 hb UE rfl ?_ (QwS h l lo gn off row hlen (Z3 ho) hr so f nf QI hf V8 gk (λh' n hx=>?_)) rfl λd2 hR=>?_
 ·simp only[go_sem];exact Df so
 ·obtain⟨g,rfl⟩:=hx;exact uo _ n (by simp) λl hl _=>Qx hl
 subst hR;have zx:h.set lo ⟨.arr,gn,1,off+l.length,row⟩=h:=A9 λi=>by
  by_cases h1:lo=i
  ·subst h1;rw[Wm Qg,ho]
  ·rw[JJ h1]
 rcases QAz (g:=gk) (l:=l) with ⟨h1,h2⟩|⟨i,hi,h1,h2,h3⟩
 ·rw[h1,h2];refine Qe hb ?_;simp only[go_sem,Qa,ho,Qg];exact⟨row,zx.symm,hr⟩
 ·rw[h1];have Qz:(((i:Nat):Int)==-1)=false:=by simp
  have QT:=JX (show i<4611686018427387904 by omega);refine Qe hb ?_;simp only[go_sem,Qa,ho,Qg,Qz,QT];refine Jg (λk s=>∃r2:Nat->List D,(∀x,x<l.length->(r2 (off+x)).length=1)/\(∀j,j<((l.take (i+1+k)).filter λx=>!gk x).length->r2 (off+j)=[Qb (((l.take (i+1+k)).filter λx=>!gk x).getD j 0)])/\(∀j,i+1+k<=j->j<l.length->r2 (off+j)=[Qb (l.getD j 0)]) /\
   s=⟨[(0,.ref lo gn off l.length),(1,so),(5,Qb ((l.take (i+1+k)).filter λx=>!gk x).length),(6,Qb (i+1+k:Nat))],h.set lo ⟨.arr,gn,1,off+l.length,r2⟩⟩) (l.length - (i+1))
   (s0:=⟨[(0,.ref lo gn off l.length),(1,so),(5,Qb i),(6,Qb (i+1:Nat))],h⟩) QQ ⟨row,λx hx=>by rw[hr x hx];rfl,?_,λj _ hj=>hr j hj,?_⟩ ?_
  ·rw[FM,h3];intro j hj;simp at hj;rw[hr j (by omega)];simp[Ze,hj,show j<l.length by omega]
  ·rw[FM,h3,zx];simp[Qau (Nat.le_of_lt hi)]
  rintro k s hk ⟨r2,Vx,Jp,j7,rfl⟩;have Sd:=QAy l (λx=>!gk x) (i+1+k);obtain⟨M,hM⟩:∃M,M=(l.take (i+1+k)).filter λx=>!gk x:=⟨_,rfl⟩;obtain⟨j,hj⟩:∃j,j=i+1+k:=⟨_,rfl⟩;have ZB:lo<(h.set lo ⟨.arr,gn,1,off+l.length,r2⟩).length:=by simpa using Qg
  have qQ:(h.set lo ⟨.arr,gn,1,off+l.length,r2⟩)[lo]? = some ⟨.arr,gn,1,off+l.length,r2⟩:=Qs Qg;rw[<- hj]at hM Jp j7 Sd ⊢;rw[<- hM]at Jp Sd ⊢;have B9:j<=l.length:=by omega
  have QT:=JX (show j<4611686018427387904 by omega);have QBW:=JX (show M.length<4611686018427387904 by omega);have QBX:∀x,x<h.length->x≠lo->(h.set lo ⟨.arr,gn,1,off+l.length,r2⟩)[x]? = h[x]? := λx _ hx=>Qk (Q8 hx);refine Qe hb ?_;simp only[go_sem,Qa,qQ,ZB];first|refine YU B9 (λQj=>?_) (λQj=>?_)|refine qu B9 (λQj=>?_) (λQj=>?_)
  ·have bj:=j7 j (QB _) Qj;have KL:off+j<off+l.length:=by omega
   simp only[go_sem,Qa,Qj,qQ,ZB,bj,KL];refine Z8 hb hf V8 ?_ (hg _ (l.getD j 0) (by simp) QBX) rfl λd2 hR=>?_
   ·simp only[go_sem];exact ER _
   subst hR;have ZF:=QkP l (λx=>!gk x) j Qj;rw[<- hM,show l.getD j default=l.getD j 0 from rfl]at ZF;cases kR:gk (l.getD j 0)
   ·rw[Qf (by simp only[kR,Hx])]at ZF;have Jb:M.length<l.length:=by omega
    have zU:off+M.length<off+l.length:=by omega
    have QBY:List.drop 1 (r2 (off+M.length))=[]:=dY (by rw[Vx _ Jb];exact QB _);refine Qe hb ?_;simp only[go_sem,Qa,qQ,ZB,QT,QBW,Jb,zU,QBY,Vx M.length Jb];have ej:i+1+(k+1)=j+1:=by omega
    have BZ:(M++[l.getD j 0]).length=M.length+1:=by simp
    refine⟨by omega,_,Qp.frame (fr':=[(0,.ref lo gn off l.length),(1,so),(5,Qb (M.length+1:Nat)),(6,Qb (j+1:Nat))]) (by simp only[go_sem]),λx=>bif x==off+M.length then [Qb (l.getD j 0)] else r2 x,?_,?_,?_,?_⟩
    ·intro x hx;show (bif off+x==off+M.length then [Qb (l.getD j 0)] else r2 (off+x)).length=1;cases (off+x==off+M.length)
     ·exact Vx x hx
     ·rfl
    ·rw[ej,ZF];intro x hx;simp at hx;by_cases l6:x=M.length
     ·subst l6;simp only[Aa,Yr];simp;rfl
     ·have e1:(off+x==off+M.length)=false:=by simp;omega
      have:=Jp x (by omega);simp only[e1,Xw,this];rw[Ze,Ze,JD (by omega)];rfl
    ·intro x Kc Xg;have e1:(off+x==off+M.length)=false:=by simp;omega
     simp only[e1,Xw];exact j7 x (by omega) Xg
    ·rw[ej,ZF,BZ];rfl
   ·rw[Qd (by simp only[kR,FI];decide)]at ZF;refine Qe hb ?_;simp only[go_sem,Qa,qQ,ZB,QT];refine⟨by omega,_,Qp.frame (fr':=[(0,.ref lo gn off l.length),(1,so),(5,Qb M.length),(6,Qb (j+1:Nat))]) (by simp only[go_sem]),r2,Vx,?_,?_,?_⟩
    ·rw[show i+1+(k+1)=j+1 by omega,ZF];exact Jp
    ·intro x Kc Xg;exact j7 x (by omega) Xg
    ·rw[show i+1+(k+1)=j+1 by omega,ZF];rfl
  ·subst Qj;rw[YO]at hM;have jB:M=xF gk l:=hM;rw[<- jB];have KL:M.length<=l.length:=by omega
   refine Qe hb ?_;simp only[go_sem,Qa,qQ,ZB,KL];refine uv BE hb rfl qQ rfl rfl rfl rfl (by simp;omega) rfl rfl rfl rfl ?_;have hgS:∀r:Ob,(h.set lo r)[lo]? = some r:=λr=>Qs Qg;refine Qe hb ?_;simp only[go_sem,Qa,hgS,Qg,KL];refine⟨by simp,_,rfl,λx hx=>by rw[ur (by omega)];exact Jp x hx⟩
theorem Qxh(so:D)(f nf:Nat)(QI:List D)(hf:Qo prog f)(V8:KM so=some (f,nf,QI))(gk:Int->Bool)(hg:Qac h lo f nf QI gk)(uo:Qac (h.map Ob.ro) lo f nf QI gk):
  QK prog 88 h [.ref lo gn off l.length,so] (λd h'=>d=.ref lo gn off (xF gk l).length/\∃KO,h'=h.set lo ⟨.arr,gn,1,off+(xF gk l).length,KO⟩/\∀i,i<(xF gk l).length->KO (off+i)=[Qb ((xF gk l).getD i 0)]):=by
 refine QK.cut (QwO h l lo gn off row hlen ho hr so f nf QI hf V8 gk hg uo) ?_;rintro d h' ⟨rfl,KO,rfl,aU⟩;have:=qL (λx=>!gk x) l;refine⟨lo,⟨.arr,gn,1,off+l.length,KO⟩,off+(xF gk l).length,Qs (Qc ho),rfl,by simp only[xF];omega,rfl,KO,by rw[JS],aU⟩
end
def KC(c:Cv):Nc:=⟨c.m1.toNat,c.d.toNat,c.m2.toNat⟩
def QAA{c:Cv}(h:c.Nn):((KC c).a:Int)=c.m1:=Ea h.1
def QAB{c:Cv}(h:c.Nn):((KC c).d:Int)=c.d:=Ea h.2.1
def QAC{c:Cv}(h:c.Nn):((KC c).b:Int)=c.m2:=Ea h.2.2
def QAD{c:Cv}(h:c.Nn):(KC c).cells=c.cells:=by simp only[Nc.cells,Cv.cells,u64,QAA h,QAB h,QAC h]
def m8(x:Qw):Bool:=decide (1<Q7 x.rt)
def qA(L:List Qw):List Nc:=(L.filter m8).map λx=>KC x.rt
def QAE(L:List Qw):(qA L).length<=L.length:=by
 have:=qL m8 L;unfold qA;rw[Kl];exact this
section
variable (h:List Ob)(t m c:Nat){es:List ZU}{L:List Qw}(T:VW es L)(hlen:L.length<1000000)
 (ht:(h.map Ob.ro)[t]? = some ⟨.Wn,0,1,1,λ_=>[.mref m 0]⟩) (hm:(h.map Ob.ro)[m]? = some (QS .i64 c es).ro)
include T ht hm hlen
theorem QAF(hn:∀c∈L,c.Nn):Wf prog 154 h [.ptr t 0 0 0] (λd g=>(d=.nil/\qA L=[])\/∃lo gn row,d=.ref lo gn 0 (qA L).length/\h.length<=lo/\(h++g)[lo]? = some ⟨.arr,gn,3,(qA L).length,row⟩/\q5 Nc.cells (qA L) 0 row):=by
 refine jT Qi 200 func154 rfl ntmps154 results154 rfl λbase w pl F hF Q3 hb=>?_;rw[<- hF]at ht hm;have ZD:=Qc ht;have QG:=Qc hm;simp only[go_sem,Qa,ht,ZD,hm,QG];have hT:UK (F.map Ob.ro) 143 0 [] m8:=λh' x qm=>by
  refine Zq Qi 200 func143 rfl ntmps143 results143 rfl λbase w pl F hF Q3 hb=>?_;simp only[go_sem,Qa];refine Ax hb iT (lJ x.rt) (Qn.flat rfl) λd h hR=>?_;obtain⟨rfl,rfl⟩:=hR;apply QC hb;exact⟨_,rfl,rfl⟩
 obtain⟨K,hK⟩:∃K,K=L.filter m8:=⟨_,rfl⟩;have hKl:K.length<=L.length:=by rw[hK];exact qL _ _
 have oT:qA L=K.map λx=>KC x.rt:=by rw[hK];rfl
 refine Is hb iS rfl ?_ (lM _ t m c T hlen (Z3 ht) (Np hm) (.raw (.func (.func 143) ⟨[]⟩ ⟨[]⟩)) 143 0 [] EL rfl _ hT) rfl λd g hs=>?_
 ·simp only[go_sem]
 rw[<- hK]at hs;rcases hs with ⟨rfl,h3⟩|⟨lo,gn,off,row,rfl,Zm,ho,hr⟩
 ·have hR0:qA L=[]:=by
   rw[oT];have:K=[]:=by simpa using h3
   rw[this];rfl
  apply QC hb;refine Jg (λi s=>s=⟨[(3,.nil),(8,Qb 0),(9,Qb 0)],F++g⟩) 0 QQ rfl ?_;rintro i s hi rfl;apply QC hb;apply QC hb;exact⟨_,rfl,.inl hR0⟩
 ·obtain⟨G,hG⟩:∃G,G=F++g:=⟨_,rfl⟩;have tc:Vt F G:=⟨g,hG⟩;have S3:=tc.get ht;have wW:=tc.get hm;rw[<- hG]at ho ⊢;have QkQ:=Qc S3;have QkR:=Qc wW;have Qg:=Qc ho;rw[Kl]at ho hr;have RP:=tc.len;apply QC hb;refine Jg (λi s=>∃gm aQ rest,q5 Nc.cells ((K.take i).map λx=>KC x.rt) 0 aQ/\s=⟨[(0,.ptr t 0 0 0),(3,.ref G.length gm 0 ((K.take i).map λx=>KC x.rt).length),(7,.ref lo gn off K.length),(8,Qb K.length),(9,Qb i)],G++(⟨.arr,gm,3,((K.take i).map λx=>KC x.rt).length,aQ⟩::rest)⟩) K.length
   (s0:=⟨[(0,.ptr t 0 0 0),(3,.ref G.length 0 0 0),(7,.ref lo gn off K.length),(8,Qb K.length),(9,Qb 0)],G++[⟨.arr,0,3,0,λ_=>[]⟩]⟩)
   (Qp.trans (Qp.Bh 3 3 (λi=>[]) rfl) (Qp.frame (by simp only[go_sem,Kl]))) ⟨0,λ_=>[],[],.nil,rfl⟩ ?_
  rintro i s hi ⟨gm,aQ,rest,Jp,rfl⟩;have QT:=JX (show i<4611686018427387904 by omega);refine Qe hb ?_;simp only[go_sem,Qa,S3,wW,QkQ,QkR,ho,Qg];first|refine YU hi (λQj=>?_) (λQj=>?_)|refine qu hi (λQj=>?_) (λQj=>?_)
  ·obtain⟨x,hx⟩:∃x,x=K.getD i default:=⟨_,rfl⟩;have hxK:x∈K:=by rw[hx,Ze,QW Qj];exact qK Qj
   have hxL:x∈L:=by rw[hK]at hxK;exact(J8.1 hxK).1
   have WZ:QF L x.iD=some x:=(Vs T.sorted).2 ⟨hxL,rfl⟩;have Wi:=T.look x.iD;rw[WZ,K0]at Wi;have zR:=hr i (by simpa using Qj);have QAH:(K.map (·.iD)).getD i 0=x.iD:=by
    rw[hx,Ze,Ze,KG,QW Qj];rfl
   rw[QAH]at zR;have ZF:(K.take (i+1)).map (λx=>KC x.rt)=(K.take i).map (λx=>KC x.rt)++[KC x.rt]:=by
    rw[Ed,QW Qj,hx,Ze,QW Qj,jN];rfl
   obtain⟨M,hM⟩:∃M,M=(K.take i).map λx=>KC x.rt:=⟨_,rfl⟩;have hMl:M.length<=i:=by rw[hM,Kl,FL];omega
   have wz:M.length<=4294967295:=by omega
   rw[<- hM]at ZF Jp ⊢;have j7:=Jp.app (KC x.rt) (r2:=λ_=>(KC x.rt).cells) rfl;rw[QAD (hn x hxL).1]at j7;simp only[go_sem,Qa,Qj,S3,wW,QkQ,QkR,ho,Qg,zR,Wi,wz];refine⟨by omega,_,Qp.frame (fr':=[(0,.ptr t 0 0 0),(3,.ref G.length (gm+1) 0 (M.length+1)),(7,.ref lo gn off K.length),(8,Qb K.length),(9,Qb (i+1:Nat))]) (by simp only[go_sem,QT]),gm+1,_,rest++[⟨.arr,0,3,1,λ_=>x.rt.cells⟩],by rw[ZF];exact j7,?_⟩;rw[ZF,Zj];rfl
  ·have h1:i=K.length:=by omega
   subst h1;rw[YO,<- oT]at Jp ⊢;apply QC hb;refine⟨g++(⟨.arr,gm,3,(qA L).length,aQ⟩::rest),by rw[hG,WC],.inr ⟨G.length,gm,aQ,rfl,by omega,?_,Jp⟩⟩;have hle:G.length=(h++g).length:=by rw[hG,Zj,Zj,Q3]
   rw[<- WC,hle,Kf (QB _),Ee];rfl
theorem QAI(hn:∀c∈L,c.Nn):QV prog 154 h [.ptr t 0 0 0] (λd=>d=YD (qA L)):=by
 refine uM (YD (qA L)) (λk=>rfl) ?_ (QAF h t m c T hlen ht hm hn);rintro d g (⟨rfl,h3⟩|⟨lo,gn,row,rfl,Zm,ho,hr⟩)
 ·left;rw[h3];simp only[go_sem]
 ·right;refine⟨lo,gn,3,_,row,Zm,ho,λi hi=>?_,?_⟩
  ·obtain⟨a,ha⟩:=hr.all i (by simpa using hi);rw[ha];rfl
  ·have e1:D.fz lo gn (qA L).length 3 row (.ref lo gn 0 (qA L).length)=.imm 3 (qA L).length (rowFrom 0 row):=by simp[D.fz,Gf]
   rw[e1];simp only[YD];rw[Uy];refine⟨rfl,rfl,λi hi=>?_⟩;have h1:=hr.at_ i hi;rw[JV]at h1;rw[Ip,JV,h1,Nc.yn];exact BD (kP _) _
end
@[go_sem] def jI(n:Int):D:=.raw (.int .i64 n)
def NU(d:Array Int):Nat->List D:=λi=>[jI d[i]!]
@[go_sem] theorem QAJ(d:Array Int)(i):NU d i=[jI d[i]!]:=rfl
@[go_sem] def DH(g:Nat)(d:Array Int):Ob:=⟨.arr,g,1,d.size,NU d⟩
def QAK{h:List Ob}{lo g}{d}(hl:lo<h.length):(h.set lo (DH g d))[lo]? = some (DH g d):=Qs hl
def QAL(g)(d:Array Int)(i n)(x)(hn:d.size=n)(hi:i<n):
  (⟨.arr,g,1,n,λk=>bif k==i then [.raw (.int .i64 x)] else [.raw (.int .i64 d[k]!)]⟩:Ob)=DH g (d.setIfInBounds i x):=by
 subst hn;unfold DH;congr 1
 ·simp
 ·funext k;unfold NU jI;by_cases k1:k=i
  ·subst k1;simp[hi]
  ·have e1:(k==i)=false:=beq_eq_false_iff_ne.mpr k1;rw[e1];by_cases k3:k<d.size
   ·simp[k1,k3,Q8 k1,pK]
   ·simp[k1,k3]
def QAM{h:List Ob}{lo g}{d:Array Int}(ho:h[lo]? = some (DH g d))(hz:d.size<1000000000):
  QK prog 156 h [.ref lo g 0 d.size] (λdd h'=>dd=.ref lo g 0 (cN (λi=>d[i]!) d.size).length/\∃row,h'=h.set lo ⟨.arr,g,1,d.size,row⟩/\(∀i,i<(cN (λi=>d[i]!) d.size).length->row i=[jI ((cN (λi=>d[i]!) d.size).getD i 0)])/\∀i,∃x,row i=[jI x]):=by
 by_cases c2:d.size<2
 ·have e2:decide ((d.size:Int)<2)=true:=Q5 (by omega);have hlen:(cN (λi=>d[i]!) d.size).length=d.size:=by
   have:d.size=0\/d.size=1:=by omega
   rcases this with h0|h0<;>rw[h0]<;>rfl
  rw[hlen];refine Q6 Qi 200 func156 rfl ntmps156 results156 rfl λbase w pl hb=>?_;have Qg:=Qc ho;simp only[go_sem,Qa,ho,Qg,e2];exact⟨NU d,(xD ho).symm,λi hi=>by rw[NQ _ _ hlen i hi];rfl,λi=>⟨_,rfl⟩⟩
 ·have e2:decide ((d.size:Int)<2)=false:=QN (by omega);refine Q6 Qi 200 func156 rfl ntmps156 results156 rfl λbase w pl hb=>?_;have Qg:=Qc ho;simp only[go_sem,Qa,ho,Qg,e2];refine Jg (λk st=>k+1<=d.size/\(cN (λi=>d[i]!) (k+1)).length=k+1/\st=⟨[(0,.ref lo g 0 d.size),(3,Qb (k+1:Nat))],h⟩) d.size (s0:=⟨[(0,.ref lo g 0 d.size),(3,Qb (0+1:Nat))],h⟩) QQ ⟨by omega,rfl,rfl⟩ ?_;rintro k _ hk ⟨Qj,ZP,rfl⟩;by_cases ck:k+1<d.size
  ·have ek:decide (k+1<d.size)=true:=Q5 ck;have v1:IntKind.i64.wrap (((k+1:Nat):Int) - 1)=((k:Nat):Int):=by rw[wrap64 (by omega) (by omega)];omega
   have v2:IntKind.i64.wrap (((k+1:Nat):Int)+1)=((k+1+1:Nat):Int):=by rw[wrap64 (by omega) (by omega)];omega
   have p0:k<d.size:=by omega
   refine Qe hb ?_;simp only[go_sem,Qa,ho,Qg,ek];apply QH hb [0,1,2,3,4,5,6,7,8,9];simp only[go_sem,Qa,ho,Qg,v1,ck,p0];by_cases YS:d[k+1]! = d[k]!
   ·have NR:(d[k+1]! == d[k]!)=true:=beq_iff_eq.mpr YS;have JW:(cN (λi=>d[i]!) (k+1+1)).length=k+1:=by
     rw[cN,Qf ⟨by omega,by simpa using YS⟩,ZP]
    have q0:k+1<=d.size:=by omega
    generalize hN:d.size - (k+1)=N;have v3:((d.size:Int) - ((k+1:Nat):Int)).toNat=N:=by omega
    simp only[go_sem,NR,q0,hN,Qa,ho,Qg,v3];refine Jg (λm st=>∃(d1:Array Int),d1.size=d.size/\m+1<=N/\(cN (λi=>d[i]!) (k+1+(m+1))).length<=k+1+m/\(∀i,i<(cN (λi=>d[i]!) (k+1+(m+1))).length->d1[i]! = (cN (λi=>d[i]!) (k+1+(m+1))).getD i 0)/\(∀j,(cN (λi=>d[i]!) (k+1+(m+1))).length<=j->d1[j]! = d[j]!)/\st=⟨[(0,.ref lo g 0 d.size),(3,Qb (cN (λi=>d[i]!) (k+1+(m+1))).length),(4,.ref lo g (k+1) N),(5,Qb (m+1:Nat))],h.set lo (DH g d1)⟩) N (s0:=⟨[(0,.ref lo g 0 d.size),(3,Qb (cN (λi=>d[i]!) (k+1+(0+1))).length),(4,.ref lo g (k+1) N),(5,Qb (0+1:Nat))],h.set lo (DH g d)⟩) ?_ ⟨d,rfl,by omega,Nat.le_of_eq JW,λi hi=>?_,λj hj=>rfl,rfl⟩ ?_
    ·rw[xD ho,JW];exact QQ
    ·rw[cN,Qf ⟨by omega,by simpa using YS⟩]at hi ⊢;exact(NQ _ _ ZP i (by omega)).symm
    rintro m _ hm ⟨d1,Jd,hmN,U1,NS,GV,rfl⟩;have ZB:=QAK (g:=g) (d:=d1) Qg;have GW:cN (λi=>d[i]!) (k+1+(m+1+1))=if d[k+1+(m+1)]! = d[k+1+m]! then cN (λi=>d[i]!) (k+1+(m+1)) else cN (λi=>d[i]!) (k+1+(m+1))++[d[k+1+(m+1)]!]:=by
     rw[show k+1+(m+1+1)=(k+1+(m+1))+1 by omega,cN];simp
    generalize hC:cN (λi=>d[i]!) (k+1+(m+1))=C at *;generalize hH:h.set lo (DH g d1)=H at ZB;have Vc:=Qc ZB;by_cases cm:m+1<N
    ·have em:decide (m+1<N)=true:=Q5 cm;have r1:=GV (k+1+(m+1)) (by omega);have r2:=GV (k+1+m) (by omega);have u1:k+1+(m+1)<d.size:=by omega
     have u2:k+1+m<d.size:=by omega
     have u3:m<N:=by omega
     have w1:IntKind.i64.wrap (((m+1:Nat):Int) - 1)=(m:Int):=by rw[wrap64 (by omega) (by omega)];omega
     have w2:IntKind.i64.wrap (((m+1:Nat):Int)+1)=((m+1+1:Nat):Int):=by rw[wrap64 (by omega) (by omega)];omega
     have w3:IntKind.i64.wrap ((C.length:Int)+1)=((C.length+1:Nat):Int):=by rw[wrap64 (by omega) (by omega)];omega
     refine Qe hb ?_;simp only[go_sem,Qa,ZB,Vc,em];apply QH hb [0,1,2,3,4,5,6,7,8,9];simp only[go_sem,Qa,ZB,Vc,Jd,w1,cm,u1,u2,u3,r1,r2];by_cases cq:d[k+1+(m+1)]! = d[k+1+m]!
     ·have nq:(d[k+1+(m+1)]! != d[k+1+m]!)=false:=by rw[cq];exact bne_self_eq_false _
      rw[Qf cq]at GW;simp only[go_sem,nq,w2];rw[GW];refine⟨by omega,_,?_,d1,Jd,by omega,by omega,NS,GV,rfl⟩;rw[<- hH];exact QQ
     ·have nq:(d[k+1+(m+1)]! != d[k+1+m]!)=true:=bne_iff_ne.mpr cq;have u4:C.length<d.size:=by omega
      rw[Qd cq]at GW;simp only[go_sem,nq,w2,w3,Qa,ZB,Vc,Jd,u1,cm,u4,r1];rw[QAL g d1 _ _ _ Jd u4,GW];refine⟨by omega,_,?_,d1.setIfInBounds C.length d[k+1+(m+1)]!,by simp;exact Jd,by omega,by simp;omega,λi hi=>?_,λj hj=>?_,rfl⟩
      ·rw[<- hH,JS,Zj,jf];exact QQ
      ·simp only[Zj,jf]at hi;by_cases e:i=C.length
       ·subst e;rw[Ze,Kf (QB _),Ee];simp[Jd,u4]
       ·rw[Ze,JD (by omega),<- Ze,<- NS i (by omega)];simp[Q8 e,OI,y6,A7]
      ·simp only[Zj,jf]at hj;rw[<- GV j (by omega)];simp[show C.length≠j by omega,OI,y6,A7]
    ·have em:decide (m+1<N)=false:=QN cm;have q6:k+1+(m+1)=d.size:=by omega
     rw[q6]at hC;rw[hC];have g1:C.length<=d.size:=by omega
     have g2:((d.size:Int) - (C.length:Int)).toNat=d.size - C.length:=by omega
     refine Qe hb ?_;simp only[go_sem,Qa,ZB,Vc,em];refine Qe hb ?_;simp only[go_sem,Qa,ZB,Vc,Jd,g1,g2];refine uv BE hb rfl ZB rfl rfl rfl rfl (by dsimp only[DH];omega) rfl rfl rfl rfl ?_;refine Qe hb ?_;simp only[go_sem,Qa,Qs Vc,Vc,Jd,g1];refine⟨by simp,zL C.length (d.size - C.length) [D.raw (.int .i64 0)] (NU d1),?_,λi hi=>?_,λi=>?_⟩
     ·rw[<- hH,JS]
     ·rw[ur hi];show [jI d1[i]!]=_;rw[NS i hi];rfl
     ·unfold zL;cases Nat.ble C.length i&&Nat.blt i (C.length+(d.size - C.length))
      ·exact⟨d1[i]!,rfl⟩
      ·exact⟨0,rfl⟩
   ·have NR:(d[k+1]! == d[k]!)=false:=beq_eq_false_iff_ne.mpr YS;simp only[go_sem,NR,v2];refine⟨by omega,_,?_,by omega,?_,rfl⟩
    ·exact QQ
    ·rw[cN,Qd (by simpa using YS)];simp[ZP]
  ·have ek:decide (k+1<d.size)=false:=QN ck;obtain Jc:k+1=d.size:=by omega
   rw[Jc]at ZP;refine Qe hb ?_;simp only[go_sem,Qa,ho,Qg,ek];apply Zi hb;rw[ZP];exact⟨rfl,NU d,(xD ho).symm,λi hi=>by rw[NQ _ _ ZP i hi];rfl,λi=>⟨_,rfl⟩⟩
def QAN(n:Nat)(h0:0<n)(hn:n<=1048576):Q4 prog 190 [.nil,Qb n] (λd h=>∃row,d=.ref 0 0 0 0/\h=[⟨.arr,0,1,0,row⟩]):=by
 have UX:¬ ((n:Int)<0):=by omega
 have qk:((n:Int) > 0):=by omega
 have w1:IntKind.i64.wrap (n:Int)=n:=by rw[IntKind.wrap_i64];omega
 refine QK.cut (R:=λd h=>d=.ref 0 0 0 0/\h=[⟨.arr,0,1,n,λ_=>[Qb 0]⟩]) ?_ (by rintro d h ⟨rfl,rfl⟩;exact⟨0,_,0,rfl,rfl,Z7 _,_,rfl,rfl⟩);show Q4 _ _ _ _;refine ZA 1 Qi 200 func190 rfl ntmps190 results190 rfl λbase w hb=>?_;simp only[go_sem];simp only[QN UX,go_sem];refine ux BE rfl rfl rfl ?_;refine Qe hb ?_;simp only[go_sem,Ff,Int.sub_zero,w1,Q5 qk,h0];refine ux BE rfl rfl rfl ?_;apply Zi hb;refine Qxo BE hb rfl rfl rfl rfl rfl rfl (by decide) h0 (by omega) (by decide) rfl ?_;exact qY hb
def QAO:Q4 prog 190 [.nil,Qb 0] (Qn .nil):=by
 refine ZA 0 Qi 200 func190 rfl ntmps190 results190 rfl λbase w hb=>?_;simp only[go_sem];refine ux BE rfl rfl rfl ?_;refine Qe hb ?_;simp only[go_sem,Ff,Int.sub_zero]
def QAP(h:List Ob)(l2)(j6)(a b:List Int)(hl:a.length+b.length<1000000)(h2:(h.map Ob.ro)[l2]? = some ⟨.Be,0,1,2,j6⟩)(e0:j6 0=[ints a])(e1:j6 1=[ints b]):
  Wf prog 155 h [.ref l2 0 0 2] (λd g=>Ky h.length (h++g) d (a++b)):=by
 have w1:IntKind.i64.wrap (a.length:Int)=(a.length:Int):=by rw[IntKind.wrap_i64];omega
 have w2:IntKind.i64.wrap ((a.length:Int)+(b.length:Int))=((a.length+b.length:Nat):Int):=by rw[IntKind.wrap_i64];omega
 have n1:decide ((a.length:Int)<0)=false:=QN (by omega);have n2:decide (((a.length+b.length:Nat):Int)<0)=false:=QN (by omega);refine jT Qi 200 func155 rfl ntmps155 results155 rfl λbase w pl F hF Q3 hb=>?_;rw[<- hF]at h2;have K9:=Qc h2;simp only[go_sem,Qa,h2,K9];obtain⟨sz,XZ,Jd,JL⟩:∃sz:Nat->Int,sz 0=0/\sz 1=a.length/\sz 2=(a.length+b.length:Nat):=⟨λi=>if i=0 then 0 else if i=1 then a.length else (a.length+b.length:Nat),rfl,rfl,rfl⟩;refine Jg (λi s=>s=⟨[(0,.ref l2 0 0 2),(3,.raw (.int .i64 (sz i))),(9,.ref l2 0 0 2),(10,Qb 2),(11,Qb i)],F⟩) 2 (Qp.frame (by simp only[go_sem,XZ])) rfl ?_;rintro i s hi rfl;have By:i=0\/i=1\/i=2:=by omega
 rcases By with rfl|rfl|rfl
 ·refine Qe hb ?_;simp only[go_sem,Qa,h2,K9,e0,e1,Ff,GX,XZ,Int.zero_add,w1,n1];exact⟨_,Qp.frame (fr':=[(0,.ref l2 0 0 2),(3,.raw (.int .i64 (sz 1))),(9,.ref l2 0 0 2),(10,Qb 2),(11,.raw (.int .i64 1))]) (by simp only[go_sem,Jd]),rfl⟩
 ·refine Qe hb ?_;simp only[go_sem,Qa,h2,K9,e0,e1,Ff,GX,Jd,w2,n2];exact⟨_,Qp.frame (fr':=[(0,.ref l2 0 0 2),(3,.raw (.int .i64 (sz 2))),(9,.ref l2 0 0 2),(10,Qb 2),(11,.raw (.int .i64 2))]) (by simp only[go_sem,JL,QkO]),rfl⟩
 ·refine Qe hb ?_;simp only[go_sem,Qa,h2,K9,e0,e1,Ff,GX,JL];refine Qe hb ?_;simp only[go_sem,Qa,h2,K9,e0,e1,Ff,GX,JL];by_cases hz:a.length+b.length=0
  case' pos=>
   refine ZW hb QhT rfl ?_ QAO (Qn.flat rfl) rfl λd h hR=>?_
   ·simp only[go_sem,Qa,h2,K9,hz]
   obtain⟨rfl,rfl⟩:=hR;refine Qe hb ?_;simp only[go_sem,Qa,h2,K9,hz];refine qS (Qp.Bh 6 1 (λ_=>[]) (by simp only[go_sem])) ?_;simp only[go_sem,Qa];generalize (λ_:Nat=>([]:List D))=QkU
  case' neg=>
   refine ZW hb QhT rfl ?_ (QAN (a.length+b.length) (by omega) (by omega)) (λd h ⟨row,h1,h2⟩=>⟨by rw[h1];rfl,λo ho=>by rw[h2]at ho;simp at ho;subst ho;exact λi hi=>absurd hi (Vw i)⟩) rfl λd h' hR=>?_
   ·simp only[go_sem,Qa]
   obtain⟨row,rfl,rfl⟩:=hR;refine Qe hb ?_;simp only[go_sem,Qa,h2,K9];generalize (λi=>Aj F.length (row i))=QkU
  all_goals
   refine Jg (λi s=>∃gn m row,(i=0->m=0)/\(i=1->m=a.length/\∀k,k<a.length->row k=[Qb (a.getD k 0)])/\(i=2->m=a.length+b.length/\∀k,k<a.length+b.length->row k=[Qb ((a++b).getD k 0)])/\s=⟨[(6,.ref F.length gn 0 m),(25,.ref l2 0 0 2),(26,Qb 2),(27,Qb i)],F++[⟨.arr,gn,1,m,row⟩]⟩) 2
    (s0:=⟨[(6,.ref F.length 0 0 0),(25,.ref l2 0 0 2),(26,Qb 2),(27,Qb 0)],F++[⟨.arr,0,1,0,QkU⟩]⟩) QQ ⟨0,0,_,λ_=>rfl,λh=>absurd h (by decide),λh=>absurd h (by decide),rfl⟩ ?_
   rintro i s hi ⟨gn,m,row,MK,aR,Xk,rfl⟩;have By:i=0\/i=1\/i=2:=by omega
   have wz:a.length<=4294967295:=by omega
   have BZ:a.length+b.length<=4294967295:=by omega
   rcases By with rfl|rfl|rfl
   ·obtain rfl:m=0:=MK rfl;refine Qe hb ?_;simp only[go_sem,Qa,h2,K9,e0,e1,Ff,GX,wz];refine⟨by omega,_,Qp.frame (fr':=[(6,.ref F.length (gn+1) 0 a.length),(25,.ref l2 0 0 2),(26,Qb 2),(27,.raw (.int .i64 1))]) (by simp only[go_sem,GX]),_,_,_,⟨rfl,λk hk=>?_⟩,rfl⟩;rw[vL (Z7 k)];rfl
   ·obtain⟨rfl,hr⟩:=aR rfl;refine Qe hb ?_;simp only[go_sem,Qa,h2,K9,e0,e1,Ff,GX,wz,BZ];refine⟨by omega,_,Qp.frame (fr':=[(6,.ref F.length (gn+1) 0 (a.length+b.length)),(25,.ref l2 0 0 2),(26,Qb 2),(27,.raw (.int .i64 2))]) (by simp only[go_sem,QkO]),_,_,_,⟨rfl,λk hk=>?_⟩,rfl⟩;by_cases h1:k<a.length
    ·rw[Ad h1,JV,hr k h1,Ze,Ze,JD h1];rfl
    ·rw[vL (by omega),Ze,Kf (by omega),<- Ze];rfl
   ·obtain⟨rfl,Xx⟩:=Xk rfl;refine Qe hb ?_;simp only[go_sem,Qa,h2,K9,e0,e1,Ff,GX];refine Qe hb ?_;simp only[go_sem,Qa,h2,K9,e0,e1,Ff,GX];refine⟨_,rfl,.inr ⟨h.length,gn,0,row,by rw[Q3,Zj],⟨QB _,rfl⟩,?_,λi hi=>by rw[JV];exact Xx i (by simpa using hi)⟩⟩;rw[Kx rfl,Zj,JV];rfl
def QAQ(h:List Ob)(l2)(j6)(a b:List Int)(hl:a.length+b.length<1000000)(h2:(h.map Ob.ro)[l2]? = some ⟨.Be,0,1,2,j6⟩)(e0:j6 0=[ints a])(e1:j6 1=[ints b]):
  QV prog 155 h [.ref l2 0 0 2] (λd=>d=ints (a++b)):=Ky.closed (QAP h l2 j6 a b hl h2 e0 e1)
deriving instance DecidableEq for Cv
deriving instance DecidableEq for Qw
def W7(A B:List Qw)(id:Int):Bool:=decide (QF A id≠QF B id)
def AJ(A B:List Qw):List Int:=(A.map (·.iD)++B.map (·.iD)).filter (W7 A B)
def j8(L:List Int):List Int:=cN (λi=>L.getD i 0) L.length
def Ko(A B:List Qw):List Int:=j8 (sorted (AJ A B))
def QAR{L}{x}:x∈j8 L↔x∈L:=by
 unfold j8;rw[Qa2];constructor
 ·rintro⟨i,hi,rfl⟩;rw[Ze,QW hi];exact qK hi
 ·intro h;obtain⟨i,hi,rfl⟩:=y9 h;exact⟨i,hi,by rw[Ze,QW hi];rfl⟩
def QAS{L}{x}:x∈sorted L↔x∈L:=(List.mergeSort_perm _ _).mem_iff
def Le{A B}{id}:id∈Ko A B↔QF A id≠QF B id:=by
 unfold Ko;rw[QAR,QAS];unfold AJ;rw[J8];unfold W7;rw[XM];constructor
 ·exact λh=>h.2
 ·intro h;refine⟨?_,h⟩;rw[Q9];cases ha:QF A id with
  | some c=>
   refine .inl (Jk.2 ⟨c,wS ha,?_⟩);have:=y8 ha;simpa using this
  | none=>
   cases hb:QF B id with
   | some c=>
    refine .inr (Jk.2 ⟨c,wS hb,?_⟩);have:=y8 hb;simpa using this
   | none=>rw[ha,hb]at h;exact absurd rfl h
def QkV(x y:Qw):(x.iD==y.iD&&(x.parent==y.parent&&(x.leaf==y.leaf&&(x.rt.m1==y.rt.m1&&(x.rt.d==y.rt.d&&(x.rt.m2==y.rt.m2&&(x.ls.m1==y.ls.m1&&(x.ls.d==y.ls.d&&(x.ls.m2==y.ls.m2&&(x.ul.m1==y.ul.m1&&(x.ul.d==y.ul.d&&(x.ul.m2==y.ul.m2&&(x.Z5==y.Z5&&x.bytes==y.bytes)))))))))))))=decide (x=y):=by
 rw[kx];simp only[Z9,vG,XM];constructor
 ·rintro⟨h1,h2,h3,h4,h5,h6,h7,h8,h9,jh,O5,F3,h13,h14⟩;obtain⟨a1,a2,a3,⟨a4,a5,a6⟩,⟨a7,a8,a9⟩,⟨b1,b2,b3⟩,b4,b5⟩:=x;obtain⟨c1,c2,c3,⟨c4,c5,c6⟩,⟨c7,c8,c9⟩,⟨d1,d2,d3⟩,d4,d5⟩:=y
  simp_all
 ·rintro rfl;simp
theorem RQ:(true==false)=false:=rfl
theorem RS:(false==true)=false:=rfl
def QAT:Q4 prog 156 [.nil] (Qn .nil):=by
 refine ZA 0 Qi 200 func156 rfl ntmps156 results156 rfl λbase w hb=>?_;simp only[go_sem]
def QAU{h:List Ob}{lo g}{Z:List Int}(ho:h[lo]? = some (DH g Z.toArray))(hz:Z.length<1000000000):
  QK prog 156 h [.ref lo g 0 Z.length] (λdd h'=>dd=.ref lo g 0 (j8 Z).length/\∃row,h'=h.set lo ⟨.arr,g,1,(j8 Z).length,row⟩/\∀i,i<(j8 Z).length->row i=[Qb ((j8 Z).getD i 0)]):=by
 have hcN:cN (λi=>Z.toArray[i]!) Z.toArray.size=j8 Z:=by
  unfold j8;congr 1;funext i;simp
 have hc:=QAM ho (by simpa using hz);rw[hcN]at hc;have hl:=Qc ho;refine QK.cut (R:=λdd h'=>dd=.ref lo g 0 (j8 Z).length/\∃row,h'=h.set lo ⟨.arr,g,1,Z.toArray.size,row⟩/\(∀i,i<(j8 Z).length->row i=[jI ((j8 Z).getD i 0)])/\∀i,∃x,row i=[jI x]) (by simpa using hc) ?_;rintro d h' ⟨rfl,row,rfl,h1,_⟩;refine⟨lo,_,(j8 Z).length,Qs hl,rfl,?_,rfl,row,by rw[JS],h1⟩;have:=RN (λi=>Z.getD i 0) Z.length;show (j8 Z).length<=Z.toArray.size;simpa[j8] using this
structure DI (F:List Ob) (A B:List Qw) (t1 t2:Nat) (L:List Int) (k:Nat) (s:St):Prop where
 ex:∃d H,Ky F.length H d ((L.take k).filter (W7 A B))/\Vt F H/\s=⟨[(0,.ptr t1 0 0 0),(1,.ptr t2 0 0 0),(5,d),(17,ints L),(18,Qb L.length),(19,Qb k)],H⟩
def DI.of{F:List Ob}{A B}{t1 t2}{L:List Int}{k:Nat}{d}{H}(hs:Ky F.length H d ((L.take k).filter (W7 A B)))(hx:Vt F H):DI F A B t1 t2 L k ⟨[(0,.ptr t1 0 0 0),(1,.ptr t2 0 0 0),(5,d),(17,ints L),(18,Qb L.length),(19,Qb k)],H⟩:=⟨⟨d,H,hs,hx,rfl⟩⟩
def QAW{h}{t1 t2}{A B:List Qw}(RA:XY h t1 A)(RB:XY h t2 B)(hA:A.length<100000)(hB:B.length<100000):
  Wf prog 105 h [.ptr t1 0 0 0,.ptr t2 0 0 0] (λd g=>Ky h.length (h++g) d (Ko A B)):=by
 refine jT Qi 200 func105 rfl ntmps105 results105 rfl λbase w pl F hF Q3 hb=>?_;simp only[go_sem,Qa];have aS:XY F t1 A:=RA.more (Kh hF);have aT:XY F t2 B:=RB.more (Kh hF);refine ZN hb iO (mn aS (by omega)) λd hR=>?_;subst hR;apply QC hb;refine ZN hb iO (mn aT (by omega)) λd hR=>?_;subst hR;apply QC hb;obtain⟨L,hL⟩:∃L,L=A.map (·.iD)++B.map (·.iD):=⟨_,rfl⟩;have hLl:L.length<200000:=by rw[hL];simp;omega
 have Ww:∀j6:Nat->List D,j6 0=[ints (A.map (·.iD))]->j6 1=[ints (B.map (·.iD))]->QV prog 155 (F++[⟨.arr,0,1,2,j6⟩]) [.ref F.length 0 0 2] (λd=>d=ints L):=λj6 e0 e1=>by
  rw[hL];exact QAQ _ F.length j6 _ _ (by simp;omega) (Z3 (show (F++[⟨.arr,0,1,2,j6⟩])[F.length]? = some ⟨.arr,0,1,2,j6⟩ by rw[Kx rfl];rfl)) e0 e1
 refine ZN hb Qvg (Ww _ (by exact rfl) (by exact rfl)) λd hR=>?_;subst hR;apply QC hb;refine Jg (DI F A B t1 t2 L) L.length (s0:=⟨[(0,.ptr t1 0 0 0),(1,.ptr t2 0 0 0),(5,.nil),(17,ints L),(18,Qb L.length),(19,Qb 0)],_⟩) QQ ⟨⟨_,_,.inl ⟨rfl,by simp⟩,⟨_,rfl⟩,rfl⟩⟩ ?_;rintro k _ hk ⟨d,H,hs,hx,rfl⟩;have RA3:∀g,XY (H++g) t1 A:=λg=>by
  obtain⟨x,rfl⟩:=hx;exact aS.more λl o e=>by rw[WC];exact yE l o e
 have RB3:∀g,XY (H++g) t2 B:=λg=>by
  obtain⟨x,rfl⟩:=hx;exact aT.more λl o e=>by rw[WC];exact yE l o e
 have RA4:XY H t1 A:=by have:=RA3 [];rwa [QU]at this
 by_cases Qj:k<L.length
 ·have dk:=Q5 Qj;obtain⟨id,Zg⟩:∃id,id=L.getD k 0:=⟨_,rfl⟩;have Jo:(L.take (k+1)).filter (W7 A B)=(L.take k).filter (W7 A B)++(if W7 A B id then [id] else []):=by
   rw[getD_take L 0 k Qj,Tn,<- Zg];cases hq:W7 A B id<;>simp[hq]
  have ga:=Rs RA4 id;have gb:=λg=>Rs (RB3 g) id;have QT:=JX (show k<4611686018427387904 by omega);cases ha:QF A id with
  | some x=>
   rw[ha]at ga;simp only[KA,wV,K6]at ga;cases Jb:QF B id with
   | some y=>
    rw[Jb]at gb;simp only[KA,wV,K6]at gb;refine Qe hb ?_;simp only[go_sem,Qa,dk,Qj,<- Zg];refine ZN hb xo ga λd hR=>?_;subst hR;apply QC hb;refine Z8 hb xo rfl ?_ (gb _) rfl λd hR=>?_
    ·simp only[go_sem,Qa,bne,QkV]
    subst hR;refine Qe hb ?_;simp only[go_sem,Qa,bne,QkV];by_cases e:x=y
    ·have hq:W7 A B id=false:=by unfold W7;rw[ha,Jb,e];simp
     have dx:=Q5 e;simp only[go_sem,Qa,dx];refine⟨Qj,_,Qp.frame (fr':=[(0,.ptr t1 0 0 0),(1,.ptr t2 0 0 0),(5,d),(17,ints L),(18,Qb L.length),(19,Qb (k+1:Nat))]) (by simp only[go_sem,QT]),DI.of (by rw[Jo,hq,Qd (by decide),QU];exact hs.app _) (hx.app _)⟩
    ·have hq:W7 A B id=true:=by unfold W7;rw[ha,Jb];simpa using e
     have dx:=QN e;rcases hs with ⟨rfl,XZ⟩|⟨lo,g,off,row,rfl,⟨Zm,rfl⟩,ho,hr⟩
     ·simp only[go_sem,Qa,dx,Go.undef];refine⟨Qj,_,Qp.frame (fr':=[(0,.ptr t1 0 0 0),(1,.ptr t2 0 0 0),(5,.ref (H.length+3) 0 0 1),(17,ints L),(18,Qb L.length),(19,Qb (k+1:Nat))]) (by simp only[go_sem,QT]),DI.of (.inr ⟨H.length+3,0,0,λ_=>[Qb id],?_,⟨by have:=hx.len;omega,rfl⟩,?_,?_⟩) (hx.app _)⟩
      ·rw[Jo,XZ,hq];rfl
      ·rw[Jo,XZ,hq,Vr rfl];rfl
      ·rw[Jo,XZ,hq];intro i hi;obtain rfl:i=0:=by simp at hi;omega
       rfl
     ·have Qg:=Qc ho;rw[JV]at ho;simp only[go_sem,Qa,dx,Go.undef,ho,Qg];refine⟨by have:=qL (W7 A B) (L.take k);simp at this;omega,Qj,_,Qp.frame (fr':=[(0,.ptr t1 0 0 0),(1,.ptr t2 0 0 0),(5,.ref lo (g+1) 0 (((L.take k).filter (W7 A B)).length+1)),(17,ints L),(18,Qb L.length),(19,Qb (k+1:Nat))]) (by simp only[go_sem,QT]),DI.of (.inr ⟨lo,g+1,0,J1 ((L.take k).filter (W7 A B)).length 0 row (λ_=>[Qb id]),?_,⟨Zm,rfl⟩,?_,?_⟩) ((hx.set Zm _).app _)⟩
      ·rw[Jo,hq];simp
      ·rw[Jo,hq,Qx (by simpa using Qg),Qs Qg];simp[Qb]
      ·rw[Jo,hq];exact No hr
   | none=>
    rw[Jb]at gb;simp only[xW,qa,jP]at gb;have hq:W7 A B id=true:=by unfold W7;rw[ha,Jb];simp
    refine Qe hb ?_;simp only[go_sem,Qa,dk,Qj,<- Zg];refine ZN hb xo ga λd hR=>?_;subst hR;apply QC hb;refine Z8 hb xo rfl ?_ (gb _) rfl λd hR=>?_
    ·simp only[go_sem,Qa,bne,Go.undef,RQ,RS]
    subst hR;refine Qe hb ?_;simp only[go_sem,Qa,bne,Go.undef,RQ,RS];rcases hs with ⟨rfl,XZ⟩|⟨lo,g,off,row,rfl,⟨Zm,rfl⟩,ho,hr⟩
    ·(try simp only[go_sem,Qa,Go.undef])
     refine⟨Qj,_,Qp.frame (fr':=[(0,.ptr t1 0 0 0),(1,.ptr t2 0 0 0),(5,.ref (H.length+3) 0 0 1),(17,ints L),(18,Qb L.length),(19,Qb (k+1:Nat))]) (by simp only[go_sem,QT]),DI.of (.inr ⟨H.length+3,0,0,λ_=>[Qb id],?_,⟨by have:=hx.len;omega,rfl⟩,?_,?_⟩) (hx.app _)⟩
     ·rw[Jo,XZ,hq];rfl
     ·rw[Jo,XZ,hq,Vr rfl];rfl
     ·rw[Jo,XZ,hq];intro i hi;obtain rfl:i=0:=by simp at hi;omega
      rfl
    ·have Qg:=Qc ho;rw[JV]at ho;simp only[go_sem,Qa,Go.undef,ho,Qg];refine⟨by have:=qL (W7 A B) (L.take k);simp at this;omega,Qj,_,Qp.frame (fr':=[(0,.ptr t1 0 0 0),(1,.ptr t2 0 0 0),(5,.ref lo (g+1) 0 (((L.take k).filter (W7 A B)).length+1)),(17,ints L),(18,Qb L.length),(19,Qb (k+1:Nat))]) (by simp only[go_sem,QT]),DI.of (.inr ⟨lo,g+1,0,J1 ((L.take k).filter (W7 A B)).length 0 row (λ_=>[Qb id]),?_,⟨Zm,rfl⟩,?_,?_⟩) ((hx.set Zm _).app _)⟩
     ·rw[Jo,hq];simp
     ·rw[Jo,hq,Qx (by simpa using Qg),Qs Qg];simp[Qb]
     ·rw[Jo,hq];exact No hr
  | none=>
   rw[ha]at ga;simp only[xW,qa,jP]at ga;cases Jb:QF B id with
   | some y=>
    rw[Jb]at gb;simp only[KA,wV,K6]at gb;have hq:W7 A B id=true:=by unfold W7;rw[ha,Jb];simp
    refine Qe hb ?_;simp only[go_sem,Qa,dk,Qj,<- Zg];refine ZN hb xo ga λd hR=>?_;subst hR;apply QC hb;refine Z8 hb xo rfl ?_ (gb _) rfl λd hR=>?_
    ·simp only[go_sem,Qa,bne,Go.undef,RQ,RS]
    subst hR;refine Qe hb ?_;simp only[go_sem,Qa,bne,Go.undef,RQ,RS];rcases hs with ⟨rfl,XZ⟩|⟨lo,g,off,row,rfl,⟨Zm,rfl⟩,ho,hr⟩
    ·(try simp only[go_sem,Qa,Go.undef])
     refine⟨Qj,_,Qp.frame (fr':=[(0,.ptr t1 0 0 0),(1,.ptr t2 0 0 0),(5,.ref (H.length+3) 0 0 1),(17,ints L),(18,Qb L.length),(19,Qb (k+1:Nat))]) (by simp only[go_sem,QT]),DI.of (.inr ⟨H.length+3,0,0,λ_=>[Qb id],?_,⟨by have:=hx.len;omega,rfl⟩,?_,?_⟩) (hx.app _)⟩
     ·rw[Jo,XZ,hq];rfl
     ·rw[Jo,XZ,hq,Vr rfl];rfl
     ·rw[Jo,XZ,hq];intro i hi;obtain rfl:i=0:=by simp at hi;omega
      rfl
    ·have Qg:=Qc ho;rw[JV]at ho;simp only[go_sem,Qa,Go.undef,ho,Qg];refine⟨by have:=qL (W7 A B) (L.take k);simp at this;omega,Qj,_,Qp.frame (fr':=[(0,.ptr t1 0 0 0),(1,.ptr t2 0 0 0),(5,.ref lo (g+1) 0 (((L.take k).filter (W7 A B)).length+1)),(17,ints L),(18,Qb L.length),(19,Qb (k+1:Nat))]) (by simp only[go_sem,QT]),DI.of (.inr ⟨lo,g+1,0,J1 ((L.take k).filter (W7 A B)).length 0 row (λ_=>[Qb id]),?_,⟨Zm,rfl⟩,?_,?_⟩) ((hx.set Zm _).app _)⟩
     ·rw[Jo,hq];simp
     ·rw[Jo,hq,Qx (by simpa using Qg),Qs Qg];simp[Qb]
     ·rw[Jo,hq];exact No hr
   | none=>
    rw[Jb]at gb;simp only[xW,qa,jP]at gb;have hq:W7 A B id=false:=by unfold W7;rw[ha,Jb];simp
    refine Qe hb ?_;simp only[go_sem,Qa,dk,Qj,<- Zg];refine ZN hb xo ga λd hR=>?_;subst hR;apply QC hb;refine Z8 hb xo rfl ?_ (gb _) rfl λd hR=>?_
    ·simp only[go_sem,Qa,bne,Go.undef,RQ,RS]
    subst hR;refine Qe hb ?_;simp only[go_sem,Qa,bne,Go.undef,RQ,RS];refine⟨Qj,_,Qp.frame (fr':=[(0,.ptr t1 0 0 0),(1,.ptr t2 0 0 0),(5,d),(17,ints L),(18,Qb L.length),(19,Qb (k+1:Nat))]) (by simp only[go_sem,QT]),DI.of (by rw[Jo,hq,Qd (by decide),QU];exact hs.app _) (hx.app _)⟩
 ·have Ju:k=L.length:=by omega
  have dk:=QN Qj;rw[Ju,YO]at hs;have Gz:AJ A B=L.filter (W7 A B):=by rw[hL];rfl
  rw[<- Gz]at hs;have QLJ:(AJ A B).length<200000:=by have:=qL (W7 A B) L;rw[Gz];omega
  rcases hs with ⟨rfl,XZ⟩|⟨lo,g,off,row,rfl,⟨Zm,rfl⟩,ho,hr⟩
  ·refine Qe hb ?_;simp only[go_sem,Qa,dk];apply QC hb;refine Jh hb iX (QiD H) λd h hR=>?_;obtain⟨rfl,rfl⟩:=hR;apply Zi hb;have ht:Ko A B=[]:=by unfold Ko;rw[XZ];simp[sorted,j8,cN]
   refine Ax hb QhN QAT (Qn.flat rfl) λd h hR=>?_;obtain⟨rfl,rfl⟩:=hR;apply QC hb;exact Ky.done Q3 hx (.inl ⟨rfl,ht⟩)
  ·have Qg:=Qc ho;refine Qe hb ?_;simp only[go_sem,Qa,dk];apply QC hb;refine Jh hb iX (QiC ho (by omega) hr (by omega)) λd h hR=>?_;obtain⟨rfl,rfl⟩:=hR;apply Zi hb;obtain⟨Z,hZ⟩:∃Z,Z=sorted (AJ A B):=⟨_,rfl⟩;have hZl:Z.length=(AJ A B).length:=by rw[hZ,IA]
   rw[<- hZ,<- hZl];refine kO (Qp.rows lo (NU Z.toArray) (Qs Qg) (λi hi=>?_)) ?_
   ·dsimp only at hi ⊢;unfold xr;rw[Qf ⟨Z7 _,by omega⟩,HF,QAJ];simp[jI]
   rw[JS];dsimp only;have ht:j8 Z=Ko A B:=by rw[hZ];rfl
   have hc:=QAU (h:=H.set lo (DH g Z.toArray)) (lo:=lo) (g:=g) (Z:=Z) (Qs Qg) (by omega);rw[ht]at hc;have JP:Z.toArray.size=Z.length:=by simp
   rw[<- JP];refine Jh hb QhN (JP▸hc) λd h hR=>?_;obtain⟨rfl,KO,rfl,aU⟩:=hR;apply Zi hb;rw[JS];refine Ky.done Q3 (hx.set Zm _) (.inr ⟨lo,g,0,KO,rfl,⟨Zm,rfl⟩,by rw[Qs Qg,JV],λi hi=>by rw[JV];exact aU i hi⟩)
def QkW{h}{t1 t2}{A B:List Qw}(RA:XY h t1 A)(RB:XY h t2 B)(hA:A.length<100000)(hB:B.length<100000):
  QV prog 105 h [.ptr t1 0 0 0,.ptr t2 0 0 0] (λd=>d=ints (Ko A B)):=Ky.closed (QAW RA RB hA hB)
def yM(T:List Qw):Prop:=∀c∈T,Qw.Ok c
def Cv.Ok.nn{c:Cv}(h:Cv.Ok c):c.Nn:=⟨(wf_u64 h.1).1,(wf_u64 h.2.1).1,(wf_u64 h.2.2.1).1⟩
def Qw.Ok.nn{c:Qw}(h:Qw.Ok c):c.Nn:=⟨h.2.2.2.1.nn,h.2.2.2.2.1.nn,h.2.2.2.2.2.1.nn⟩
def Cv.Ok.lt{c:Cv}(h:Cv.Ok c):(KC c).Lt:=by
 have h1:=wf_u64 h.1;have h2:=wf_u64 h.2.1;have h3:=wf_u64 h.2.2.1;refine⟨?_,?_,?_⟩<;>(simp only[KC];omega)
def yM.QA1{T}(h:yM T):∀c∈qA T,c.Lt:=λc hc=>by
 obtain⟨x,hx,rfl⟩:=Jk.1 hc;exact(h x (J8.1 hx).1).2.2.2.1.lt
def yM.one{T}(h:yM T)(hr:XD T){c}(hc:JH.Ok c):yM (Dz T c):=by
 unfold Dz;split
 ·split
  ·exact λd hd=>h d (J8.1 hd).1
  ·intro d hd;rcases BL hr c.cls hd with rfl|hd
   ·exact hc.2.1
   ·exact h d hd
 ·exact h
def YZ:List Qw->List JH->Nat->Int × Nat × List Qw
 | T,[],_=>(0,0,T)
 | T,c::l,i=>if yK T c≠0 then (yK T c,i,T) else YZ (Dz T c) l (i+1)
def B1(T:List Qw)(t:Int)(l:List JH):Int:=
 if 32<l.length then 2 else if (YZ T l 0).1≠0 then (YZ T l 0).1 else Fh t (qA (YZ T l 0).2.2)
def RU(T:List Qw)(l:List JH):Nat:=if 32<l.length then 0 else if (YZ T l 0).1≠0 then (YZ T l 0).2.1 else 0
def JM(T:List Qw)(l:List JH):List Qw:=(YZ T l 0).2.2
def QkX:∀(l:List JH) (T:List Qw) (i:Nat),VR T->yM T->(∀c∈l,JH.Ok c)->VR (YZ T l i).2.2/\yM (YZ T l i).2.2
 | [],T,i,I,K,_=>⟨I,K⟩
 | c::l,T,i,I,K,hc=>by
  rw[YZ];split
  ·exact⟨I,K⟩
  ·exact QkX l _ _ (I.one c) (K.one I.rising (hc c (by simp))) λd hd=>hc d (by simp[hd])
def QA2{T0 T}{l:List JH}{k}(hk:k<l.length)(h:YZ T0 l 0=YZ T (l.drop k) k):YZ T0 l 0=if yK T (l.getD k default)≠0 then (yK T (l.getD k default),k,T) else YZ (Dz T (l.getD k default)) (l.drop (k+1)) (k+1):=by
 rw[h,Tl hk,YZ,Ze,QW hk];rfl
@[go_sem] def aV(l:List JH):D:=.imm 15 l.length (JH.rows l)
def QA3{S}{h}{t}{T}(R:Wv S h t T)(I:VR T)(K:yM T)(n)(KX:1<=n)(VQ:n<=65536)(l:List JH)(hc:∀c∈l,JH.Ok c)(hl:l.length<1000000):
  QK prog 104 h [.ptr t 0 0 0,Qb n,aV l] (λd h'=>∃p,d=.tup [if B1 T n l=0 then .ptr p 0 0 0 else .raw (.pointer none),Qb (RU T l),Qb (B1 T n l)]/\(B1 T n l=0->Wv (λl=>h.length<=l) h' p (JM T l))/\∃g,h'=h++g):=by
 have d1:decide (n<1)=false:=QN (by omega);have d2:decide (65536<n)=false:=QN (by omega);by_cases Lf:32<l.length
 ·have d3:decide ((32:Int)<(l.length:Int))=true:=Q5 (by omega);have e1:B1 T n l=2:=Qf Lf;have e2:RU T l=0:=Qf Lf;refine Q6 Qi 200 func104 rfl ntmps104 results104 rfl λbase w pl hb=>?_;simp only[go_sem,Qa,d1,d2,d3];rw[e1,e2];exact⟨0,rfl,(λh=>absurd h (by decide)),[],(QU _).symm⟩
 ·have d3:decide ((32:Int)<(l.length:Int))=false:=QN (by omega);refine Q6 Qi 200 func104 rfl ntmps104 results104 rfl λbase w pl hb=>?_;simp only[go_sem,Qa,d1,d2,d3];refine Jh hb QhJ (Qj4 R) λd h hR=>?_;obtain⟨rfl,R2,g,rfl,hg⟩:=hR;apply Zi hb;have Pr:RU T l=if (YZ T l 0).1≠0 then (YZ T l 0).2.1 else 0:=Qd Lf;have aW:B1 T n l=if (YZ T l 0).1≠0 then (YZ T l 0).1 else Fh n (qA (YZ T l 0).2.2):=Qd Lf;refine Jg (λk st=>∃Tk H,Wv (λl=>h.length<=l) H (h.length+1) Tk/\VR Tk/\yM Tk/\YZ T l 0=YZ Tk (l.drop k) k/\(∃g,H=h++g)/\st=⟨[(1,Qb n),(9,.ptr (h.length+1) 0 0 0),(30,aV l),(31,Qb l.length),(32,Qb k)],H⟩) l.length (s0:=⟨[(1,Qb n),(9,.ptr (h.length+1) 0 0 0),(30,aV l),(31,Qb l.length),(32,Qb 0)],h++g⟩) QQ ⟨T,_,R2,I,K,rfl,⟨_,rfl⟩,rfl⟩ ?_;rintro k _ hk ⟨Tk,H,Rk,Ik,Kk,yf,⟨g2,rfl⟩,rfl⟩;by_cases Qj:k<l.length
  ·have dk:=Q5 Qj;have Jo:=QA2 Qj yf;have hcx:JH.Ok (l.getD k default):=hc _ (WI l default k Qj);obtain⟨x,hx⟩:∃x,x=l.getD k default:=⟨_,rfl⟩;rw[<- hx]at Jo hcx;have Pa:=λg=>(show QK prog 152 (h++(g2++g)) [.ptr (h.length+1) 0 0 0,.agg x.cells] (λd h'=>d=Qb (yK Tk x)/\Wv (λl=>h.length<=l/\l<(h++g2).length) h' (h.length+1) (Dz Tk x)/\Step (λl=>h.length<=l/\l<(h++g2).length) (h++(g2++g)) h') by rw[<- WC];exact Qzf (Rk.app g) Ik x);have QT:=JX (show k<4611686018427387904 by omega);refine Qe hb ?_;simp only[go_sem,Qa,dk,Qj,JH.yn,<- hx];refine Jh hb Qvd (Pa _) λd h6 hR=>?_;obtain⟨rfl,R6,s6⟩:=hR;have hg6:∃g,h6=h++g:=by
    refine⟨h6.drop h.length,?_⟩;apply A9;intro i;by_cases hi:i<h.length
    ·rw[Qx hi,s6.keep i (by simp;omega) (λh=>by have:=h.1;omega),Qx hi]
    ·rw[Kf (by omega),HA];congr 1;omega
   have R7:Wv (λl=>h.length<=l) h6 (h.length+1) (Dz Tk x):=R6.step λl _ hs=>⟨hs.1,rfl⟩;apply Zi hb;by_cases h0:yK Tk x=0
   ·rw[Qd (by simpa using h0)]at Jo;have d0:(yK Tk x != 0)=false:=by simpa using h0
    simp only[go_sem,d0];exact⟨Qj,_,Qp.frame (by simp only[go_sem,QT]),Dz Tk x,_,R7,Ik.one x,Kk.one Ik.rising hcx,Jo,hg6,rfl⟩
   ·rw[Qf (by simpa using h0)]at Jo;have d0:(yK Tk x != 0)=true:=by simpa using h0
    simp only[go_sem,d0];rw[Pr,aW,Jo];simp only[Qf (show yK Tk x≠0 from h0),Qd h0];exact⟨0,trivial,(λh=>absurd h h0),hg6⟩
  ·have Ju:k=l.length:=by omega
   have dk:=QN Qj;rw[Ju,List.drop_length,YZ]at yf;rw[yf]at Pr aW;simp only[ne_eq,not_true_eq_false,jP]at Pr aW;have hT:JM T l=Tk:=by unfold JM;rw[yf]
   have hlen:=Ik.len;have Lg:QV prog 154 (h++g2) [.ptr (h.length+1) 0 0 0] (λd=>d=YD (qA Tk)):=by
    obtain⟨m,c,es,h1,h2,h3⟩:=Rk.toR;exact QAI _ _ m c h3 (by omega) h1 h2 (λx hx=>(Kk x hx).nn)
   have Ku:=QAE Tk;refine Qe hb ?_;simp only[go_sem,Qa,dk];apply QC hb;refine ZN hb Qvf Lg λd hR=>?_;subst hR;apply QC hb;refine Ax hb Qve (QAu n (qA Tk) (by omega) Kk.QA1) (Qn.flat rfl) λd h hR=>?_;obtain⟨rfl,rfl⟩:=hR;apply QC hb;rw[Pr,aW,hT];by_cases h0:Fh n (qA Tk)=0
   ·have d0:(Fh n (qA Tk) != 0)=false:=by simpa using h0
    simp only[go_sem,Qa,d0];rw[h0];exact⟨h.length+1,by simp,λ_=>Rk,g2,rfl⟩
   ·have d0:(Fh n (qA Tk) != 0)=true:=by simpa using h0
    simp only[go_sem,Qa,d0];exact⟨0,by simp[h0],λh=>absurd h h0,g2,rfl⟩
def RV{T}(I:VR T)(K:yM T){l}(hc:∀c∈l,JH.Ok c):VR (JM T l)/\yM (JM T l):=QkX l T 0 I K hc
def Lh(T:List Qw)(id:Int):Bool:=decide (1<Q7 ((QF T id).getD default).rt)
def m9(A B:List Qw):Bool:=(Ko A B).any λid=>Lh A id || Lh B id
structure Nd where
 c:Qw
 Jz:Nat
 du:Du
 sh:Sh
 cp:Cp
 q:Qu
instance:Inhabited Nd:=⟨⟨default,0,default,default,default,default⟩⟩
def Vd(d:D)(n:Nd):List D:=d::(n.c.cells++(u64 n.Jz::(n.du.cells++(n.sh.cells++n.cp.cells))))
section
variable (d:D)(n:Nd)
@[go_sem] theorem QLK:(Vd d n).getD 0 D.undef=d:=rfl
@[go_sem] theorem QLL:(List.drop 1 (Vd d n)).getD 0 D.undef=Qb n.c.iD:=rfl
@[go_sem] theorem QLM:(List.drop 2 (Vd d n)).getD 0 D.undef=Qb n.c.parent:=rfl
@[go_sem] theorem QLN:(List.drop 3 (Vd d n)).getD 0 D.undef=QJ n.c.leaf:=rfl
@[go_sem] theorem QLO:(List.drop 15 (Vd d n)).getD 0 D.undef=u64 n.Jz:=rfl
@[go_sem] theorem QLP:(List.drop 36 (Vd d n)).getD 0 D.undef=u64 n.du.YY:=rfl
@[go_sem] theorem QLQ:(List.drop 37 (Vd d n)).getD 0 D.undef=u64 n.du.dead:=rfl
@[go_sem] theorem QLR:(List.drop 48 (Vd d n)).getD 0 D.undef=u64 n.sh.time:=rfl
@[go_sem] theorem QLS:(List.drop 59 (Vd d n)).getD 0 D.undef=u64 n.cp.fit:=rfl
@[go_sem] theorem QLT:List.take 14 (List.drop 1 (Vd d n))=n.c.cells:=rfl
@[go_sem] theorem QLU:List.take 3 (List.drop 4 (Vd d n))=n.c.rt.cells:=rfl
@[go_sem] theorem QLV:List.take 3 (List.drop 7 (Vd d n))=n.c.ls.cells:=rfl
@[go_sem] theorem QLW:List.take 3 (List.drop 10 (Vd d n))=n.c.ul.cells:=rfl
@[go_sem] theorem QLX:List.take 22 (List.drop 16 (Vd d n))=n.du.cells:=rfl
@[go_sem] theorem QLY:List.take 11 (List.drop 38 (Vd d n))=n.sh.cells:=rfl
@[go_sem] theorem QLZ:List.take 11 (List.drop 49 (Vd d n))=n.cp.cells:=rfl
@[go_sem] theorem QL0(v):List.take 15 (Vd d n)++(.raw (.int .u64 ((v:Nat):Int))::List.drop 16 (Vd d n))=Vd d { n with Jz:=v }:=rfl
@[go_sem] theorem QL1(x:Du):List.take 16 (Vd d n)++(.raw (.bool x.has)::.raw (.int .u64 ((x.dl.f.x:Nat):Int))::.raw (.int .u64 ((x.dl.f.y / 18446744073709551616:Nat):Int))::.raw (.int .u64 ((x.dl.f.y % 18446744073709551616:Nat):Int))::.raw (.int .u64 ((x.dl.f.m:Nat):Int))::.raw (.int .u64 ((x.dl.t.x:Nat):Int))::.raw (.int .u64 ((x.dl.t.y / 18446744073709551616:Nat):Int))::.raw (.int .u64 ((x.dl.t.y % 18446744073709551616:Nat):Int))::.raw (.int .u64 ((x.dl.t.m:Nat):Int))::.raw (.bool x.dl.b)::.raw (.int .u64 ((x.rd.f.x:Nat):Int))::.raw (.int .u64 ((x.rd.f.y / 18446744073709551616:Nat):Int))::.raw (.int .u64 ((x.rd.f.y % 18446744073709551616:Nat):Int))::.raw (.int .u64 ((x.rd.f.m:Nat):Int))::.raw (.int .u64 ((x.rd.t.x:Nat):Int))::.raw (.int .u64 ((x.rd.t.y / 18446744073709551616:Nat):Int))::.raw (.int .u64 ((x.rd.t.y % 18446744073709551616:Nat):Int))::.raw (.int .u64 ((x.rd.t.m:Nat):Int))::.raw (.bool x.rd.b)::.raw (.int .u64 ((x.J9:Nat):Int))::.raw (.int .u64 ((x.YY:Nat):Int))::.raw (.int .u64 ((x.dead:Nat):Int))::List.drop 38 (Vd d n))=Vd d { n with du:=x }:=rfl
@[go_sem] theorem QA4(x:Sh):List.take 38 (Vd d n)++(.raw (.bool x.has)::.raw (.int .u64 ((x.run.f.x:Nat):Int))::.raw (.int .u64 ((x.run.f.y / 18446744073709551616:Nat):Int))::.raw (.int .u64 ((x.run.f.y % 18446744073709551616:Nat):Int))::.raw (.int .u64 ((x.run.f.m:Nat):Int))::.raw (.int .u64 ((x.run.t.x:Nat):Int))::.raw (.int .u64 ((x.run.t.y / 18446744073709551616:Nat):Int))::.raw (.int .u64 ((x.run.t.y % 18446744073709551616:Nat):Int))::.raw (.int .u64 ((x.run.t.m:Nat):Int))::.raw (.bool x.run.b)::.raw (.int .u64 ((x.time:Nat):Int))::List.drop 49 (Vd d n))=Vd d { n with sh:=x }:=rfl
@[go_sem] theorem QL2(x:Cp):List.take 49 (Vd d n)++(.raw (.bool x.has)::.raw (.int .u64 ((x.run.f.x:Nat):Int))::.raw (.int .u64 ((x.run.f.y / 18446744073709551616:Nat):Int))::.raw (.int .u64 ((x.run.f.y % 18446744073709551616:Nat):Int))::.raw (.int .u64 ((x.run.f.m:Nat):Int))::.raw (.int .u64 ((x.run.t.x:Nat):Int))::.raw (.int .u64 ((x.run.t.y / 18446744073709551616:Nat):Int))::.raw (.int .u64 ((x.run.t.y % 18446744073709551616:Nat):Int))::.raw (.int .u64 ((x.run.t.m:Nat):Int))::.raw (.bool x.run.b)::.raw (.int .u64 ((x.fit:Nat):Int))::List.drop 60 (Vd d n))=Vd d { n with cp:=x }:=rfl
end
inductive Tag where
 | no|sc|tree|Cn|yu (id:Int)|zS (id:Int)|on|lv|mk|YE (id:Int)|QA5
deriving DecidableEq
def QX(own:Nat->Tag)(h:List Ob)(t:Tag):Nat->Tag:=λl=>if h.length<=l then t else own l
def ng{own}{h}{t}(l):more (λl=>own l=t) h l->QX own h t l=t:=λhl=>by
 unfold QX;split
 ·rfl
 ·rcases hl with hl|hl
  ·exact hl
  ·omega
def Js{own}{h:List Ob}{t}{l}(hl:l<h.length):QX own h t l=own l:=by unfold QX;rw[Qd (by omega)]
structure Qq where
 lk:Cf
 T:List Qw
 To:List Qw
 N:List Nd
 A:List Int
 Lv:List It
 ks:Int->Bool
 KT:Int->List It
 Qh:Nat
 acc:Nat
structure Loc where
 t:Nat
 b:Nat
 o:Nat
 v:Nat
 m:Nat
 cb:Nat
 cm:Nat
 eb:List ZU
 em:List ZU
 le:Int->Nat
 lq:Int->Nat
 lk:Int->Nat
def Ql(N:List Nd)(id:Int):Option Nd:=N.find? λn=>n.c.iD==id
@[go_sem] def vp(c:Cf)(t b o v m Qh acc:Nat):Ob:=⟨.one,0,9,1,λ_=>[Qb c.t,Qb c.JK,.ptr t 0 0 0,.mref b 0,.ptr o 0 0 0,.ptr v 0 0 0,.mref m 0,u64 Qh,u64 acc]⟩
@[go_sem] def qt(d:D)(n:Nd):Ob:=⟨.one,0,60,1,λ_=>Vd d n⟩
def qD(lq:Int->Nat)(n:Nd):D:=if n.c.leaf=true then .ptr (lq n.c.iD) 0 0 0 else .raw (.pointer none)
structure Nd.Ok (n:Nd):Prop where
 Jz:n.Jz<18446744073709551616
 du:n.du.Ok
 sh:n.sh.Ok
 cp:n.cp.Ok
 c:Qw.Ok n.c
structure ZS (own:Nat->Tag) (h:List Ob) (p:Nat) (L:Loc) (M:Qq):Prop where
 ob:h[p]? = some (vp M.lk L.t L.b L.o L.v L.m M.Qh M.acc)
 op:own p=.sc
 tr:Wv (λl=>own l=.tree) h L.t M.T
 VD:h[L.b]? = some (QS .i64 L.cb L.eb)
 XI:Vl L.eb (λid=>(Ql M.N id).map λ_=>.ptr (L.le id) 0 0 0)
 ow:own L.b=.Cn
 JF:∀id n,Ql M.N id=some n->h[L.le id]? = some (qt (qD L.lq n) n)/\own (L.le id)=.yu id
 Wy:∀id n,Ql M.N id=some n->n.c.leaf=true->∃k:Nat,n.c.Z5=k/\xB (λl=>own l=.zS id) h (L.lq id) k n.c.bytes n.q
 q8:j4 (λl=>own l=.on) h L.o M.To M.A
 YF:WX (λl=>own l=.lv) h L.v M.Lv
 Wj:h[L.m]? = some (QS .i64 L.cm L.em)
 Yk:Vl L.em (λid=>if M.ks id=true then some (.ptr (L.lk id) 0 0 0) else none)
 om:own L.m=.mk
 kids:∀id,M.ks id=true->WX (λl=>own l=.YE id) h (L.lk id) (M.KT id)
 q9:∀id n,Ql M.N id=some n->n.Ok
def WX.step{S S'}{h h':List Ob}{p}{L}(e:∀l,l<h.length->S l->S' l/\h'[l]? = h[l]?):WX S h p L->WX S' h' p L:=λ⟨a,m,t,c,es,T⟩=>
 have k:∀l o,S l->h[l]? = some o->h'[l]? = some o:=λl o h1 h2=>(e l (Qc h2) h1).2.trans h2
 ⟨a,m,t,c,es,k _ _ T.sp T.o,⟨k _ _ T.sa T.av.o,T.av.is.frame λl hl=>(e l (T.av.is.lt l hl) (T.st l hl)).2,T.av.list,T.av.nd,T.av.out,T.av.sorted⟩,k _ _ T.sm T.mo,T.mp,T.vi,T.pa,T.pm,T.am,T.pt,T.mt,(e _ (Qc T.o) T.sp).1,(e _ (Qc T.av.o) T.sa).1,(e _ (Qc T.mo) T.sm).1,λl hl=>(e l (T.av.is.lt l hl) (T.st l hl)).1⟩
def Live(t:Tag):Prop:=t≠.no/\t≠.QA5
def ZS.step{own own'}{h h':List Ob}{p}{L}{M}(C:ZS own h p L M)(e:∀l,l<h.length->Live (own l)->own' l=own l/\h'[l]? = h[l]?):ZS own' h' p L M:=by
 have k:∀l o t,own l=t->Live t->h[l]? = some o->h'[l]? = some o:=λl o t h1 h2 h3=>(e l (Qc h3) (by rw[h1];exact h2)).2.trans h3;have o1:∀l o t,own l=t->Live t->h[l]? = some o->own' l=t:=λl o t h1 h2 h3=>by rw[(e l (Qc h3) (by rw[h1];exact h2)).1,h1]
 have s:∀t,Live t->∀l,l<h.length->own l=t->own' l=t/\h'[l]? = h[l]? := λt h2 l hl h1=>by
  obtain⟨a,b⟩:=e l hl (by rw[h1];exact h2);exact⟨by rw[a,h1],b⟩
 refine⟨k _ _ _ C.op (by simp[Live]) C.ob,o1 _ _ _ C.op (by simp[Live]) C.ob,C.tr.step (s _ (by simp[Live])),k _ _ _ C.ow (by simp[Live]) C.VD,C.XI,o1 _ _ _ C.ow (by simp[Live]) C.VD,λid n hn=>?_,λid n hn hl=>?_,C.q8.step (s _ (by simp[Live])),C.YF.step (s _ (by simp[Live])),k _ _ _ C.om (by simp[Live]) C.Wj,C.Yk,o1 _ _ _ C.om (by simp[Live]) C.Wj,λid hk=>(C.kids id hk).step (s _ (by simp[Live])),C.q9⟩
 ·obtain⟨h1,h2⟩:=C.JF id n hn;exact⟨k _ _ _ h2 (by simp[Live]) h1,o1 _ _ _ h2 (by simp[Live]) h1⟩
 ·obtain⟨kk,h1,h2⟩:=C.Wy id n hn hl;exact⟨kk,h1,h2.step (s _ (by simp[Live]))⟩
structure ZO (own:Nat->Tag) (h:List Ob) (own':Nat->Tag) (h':List Ob):Prop where
 same:∀l,l<h.length->own' l=own l
 keep:∀l,l<h.length->own l=Tag.no->h'[l]? = h[l]?
 len:h.length<=h'.length
def ZO.refl(own)(h):ZO own h own h:=⟨λ_ _=>rfl,λ_ _ _=>rfl,QB _⟩
def ZO.trans{own own' aX}{h h' qO}(a:ZO own h own' h')(b:ZO own' h' aX qO):ZO own h aX qO:=
 ⟨λl hl=>(b.same l (wU hl a.len)).trans (a.same l hl),λl hl hn=>(b.keep l (wU hl a.len) ((a.same l hl).trans hn)).trans (a.keep l hl hn),KZ a.len b.len⟩
def ZO.app(own)(h g)(t):ZO own h (QX own h t) (h++g):=⟨λl hl=>Js hl,λl hl _=>Qx hl,by simp⟩
def ZO.of{own}{h h'}{t}(ht:t≠.no)(s:Step (λl=>own l=t) h h'):ZO own h (QX own h t) h':=
 ⟨λl hl=>Js hl,λl hl hn=>s.keep l hl (by rw[hn];exact λe=>ht e.symm),s.len⟩
def ZO.set{own}{h:List Ob}{l}(o)(hl:own l≠.no):ZO own h own (h.set l o):=⟨λ_ _=>rfl,λj hj hn=>Qk (λe=>hl (e▸hn)),by simp⟩
section
variable {own:Nat->Tag}{h h':List Ob}{p:Nat}{L:Loc}{M:Qq}(C:ZS own h p L M)
include C
theorem ZS.RW(g):ZS (QX own h .no) (h++g) p L M:=C.step λl hl _=>⟨Js hl,Qx hl⟩
theorem ZS.loc{l}(hl:own l=.no)(o):ZS own (h.set l o) p L M:=C.step λj _ hj=>⟨rfl,Qk (λe=>hj.1 (by rw[<- e,hl]))⟩
theorem ZS.rest{t}(s:Step (λl=>own l=t) h h'):∀u,u≠t->∀l,l<h.length->own l=u->QX own h t l=u/\h'[l]? = h[l]? := λu hu l hl h1=>
 ⟨by rw[Js hl,h1],s.keep l hl (by rw[h1];exact hu)⟩
theorem ZS.YE(id)(hk:M.ks id=true){B}(T':WX (more (λl=>own l=.YE id) h) h' (L.lk id) B)(s:Step (λl=>own l=.YE id) h h'):ZS (QX own h (.YE id)) h' p L { M with KT:=λj=>if j=id then B else M.KT j }:=by
 have r:=C.rest s;have k:∀l o t,own l=t->t≠.YE id->h[l]? = some o->h'[l]? = some o/\QX own h (.YE id) l=t:=λl o t h1 h2 h3=>by
  obtain⟨a,b⟩:=r t h2 l (Qc h3) h1;exact⟨b.trans h3,a⟩
 refine⟨(k _ _ _ C.op (by simp) C.ob).1,(k _ _ _ C.op (by simp) C.ob).2,C.tr.step (r _ (by simp)),(k _ _ _ C.ow (by simp) C.VD).1,C.XI,(k _ _ _ C.ow (by simp) C.VD).2,λi n hn=>?_,λi n hn hl=>?_,C.q8.step (r _ (by simp)),C.YF.step (r _ (by simp)),(k _ _ _ C.om (by simp) C.Wj).1,C.Yk,(k _ _ _ C.om (by simp) C.Wj).2,λi hi=>?_,C.q9⟩
 ·obtain⟨h1,h2⟩:=C.JF i n hn;exact k _ _ _ h2 (by simp) h1
 ·obtain⟨kk,h1,h2⟩:=C.Wy i n hn hl;exact⟨kk,h1,h2.step (r _ (by simp))⟩
 ·by_cases e:i=id
  ·subst e;dsimp only;rw[Qf rfl];exact T'.mono λl hl=>ng l hl
  ·dsimp only;rw[Qd e];exact(C.kids i hi).step (r _ (by simpa using e))
theorem ZS.lv{B}(T':WX (more (λl=>own l=.lv) h) h' L.v B)(s:Step (λl=>own l=.lv) h h'):ZS (QX own h .lv) h' p L { M with Lv:=B }:=by
 have r:=C.rest s;have k:∀l o t,own l=t->t≠.lv->h[l]? = some o->h'[l]? = some o/\QX own h .lv l=t:=λl o t h1 h2 h3=>by
  obtain⟨a,b⟩:=r t h2 l (Qc h3) h1;exact⟨b.trans h3,a⟩
 refine⟨(k _ _ _ C.op (by simp) C.ob).1,(k _ _ _ C.op (by simp) C.ob).2,C.tr.step (r _ (by simp)),(k _ _ _ C.ow (by simp) C.VD).1,C.XI,(k _ _ _ C.ow (by simp) C.VD).2,λi n hn=>?_,λi n hn hl=>?_,C.q8.step (r _ (by simp)),T'.mono λl hl=>ng l hl,(k _ _ _ C.om (by simp) C.Wj).1,C.Yk,(k _ _ _ C.om (by simp) C.Wj).2,λi hi=>(C.kids i hi).step (r _ (by simp)),C.q9⟩
 ·obtain⟨h1,h2⟩:=C.JF i n hn;exact k _ _ _ h2 (by simp) h1
 ·obtain⟨kk,h1,h2⟩:=C.Wy i n hn hl;exact⟨kk,h1,h2.step (r _ (by simp))⟩
theorem ZS.act{A'}(T':j4 (more (λl=>own l=.on) h) h' L.o M.To A')(s:Step (λl=>own l=.on) h h'):ZS (QX own h .on) h' p L { M with A:=A' }:=by
 have r:=C.rest s;have k:∀l o t,own l=t->t≠.on->h[l]? = some o->h'[l]? = some o/\QX own h .on l=t:=λl o t h1 h2 h3=>by
  obtain⟨a,b⟩:=r t h2 l (Qc h3) h1;exact⟨b.trans h3,a⟩
 refine⟨(k _ _ _ C.op (by simp) C.ob).1,(k _ _ _ C.op (by simp) C.ob).2,C.tr.step (r _ (by simp)),(k _ _ _ C.ow (by simp) C.VD).1,C.XI,(k _ _ _ C.ow (by simp) C.VD).2,λi n hn=>?_,λi n hn hl=>?_,T'.step λl _ hl=>⟨ng l hl,rfl⟩,C.YF.step (r _ (by simp)),(k _ _ _ C.om (by simp) C.Wj).1,C.Yk,(k _ _ _ C.om (by simp) C.Wj).2,λi hi=>(C.kids i hi).step (r _ (by simp)),C.q9⟩
 ·obtain⟨h1,h2⟩:=C.JF i n hn;exact k _ _ _ h2 (by simp) h1
 ·obtain⟨kk,h1,h2⟩:=C.Wy i n hn hl;exact⟨kk,h1,h2.step (r _ (by simp))⟩
end
def ZO.Fi{own}{h:List Ob}{own'}{H:List Ob}(D:ZO own h own' H){l}(hl:h.length<=l)(o):ZO own h own' (H.set l o):=⟨D.same,λj h1 h2=>by rw[Qk (by omega)];exact D.keep j h1 h2,by simpa using D.len⟩
def Vm(N:List Nd)(id:Int)(f:Nd->Nd):List Nd:=N.map λn=>if n.c.iD=id then f n else n
def vq{N}{id}{f}(hf:∀n,(f n).c.iD=n.c.iD)(j:Int):Ql (Vm N id f) j=if j=id then (Ql N j).map f else Ql N j:=by
 unfold Ql Vm;rw[List.find?_map];have e:((λn:Nd=>n.c.iD==j) ∘ λn=>if n.c.iD=id then f n else n)=λn=>n.c.iD==j:=by
  funext n;simp only[Function.comp_apply];split<;>simp[hf]
 rw[e];by_cases hj:j=id
 ·subst hj;rw[Qf rfl];cases hq:N.find? λn=>n.c.iD==j with
  | none=>rfl
  | some n=>
   have:=y8 hq;simp only[vG]at this;simp[this]
 ·rw[Qd hj];cases hq:N.find? λn=>n.c.iD==j with
  | none=>rfl
  | some n=>
   have:=y8 hq;simp only[vG]at this;simp only[K0];rw[Qd (by rw[this];exact hj)]
section
variable {own:Nat->Tag}{h:List Ob}{p:Nat}{L:Loc}{M:Qq}(C:ZS own h p L M)
include C
theorem ZS.yu{id}{n:Nd}(hn:Ql M.N id=some n)(f)(hc:∀n,(f n).c=n.c)(hq:∀n,(f n).q=n.q)(Ja:(f n).Ok):ZS own (h.set (L.le id) (qt (qD L.lq n) (f n))) p L { M with N:=Vm M.N id f }:=by
 obtain⟨e1,e2⟩:=C.JF id n hn;have Qz:∀l o t,own l=t->t≠.yu id->h[l]? = some o->(h.set (L.le id) (qt (qD L.lq n) (f n)))[l]? = some o:=λl o t h1 h2 h3=>by
  rw[Qk (λe=>h2 (by rw[<- h1,<- e,e2]))];exact h3
 have r:∀t,t≠.yu id->∀l,l<h.length->own l=t->own l=t/\(h.set (L.le id) (qt (qD L.lq n) (f n)))[l]? = h[l]? := λt ht l hl h1=>⟨h1,Qk (λe=>ht (by rw[<- h1,<- e,e2]))⟩;have Zg:∀n,(f n).c.iD=n.c.iD:=λn=>by rw[hc]
 have GZ:=vq (N:=M.N) (id:=id) Zg;refine⟨Qz _ _ _ C.op (by simp) C.ob,C.op,C.tr.step (r _ (by simp)),Qz _ _ _ C.ow (by simp) C.VD,C.XI.to λj=>?_,C.ow,λj m hm=>?_,λj m hm hl=>?_,C.q8.step (r _ (by simp)),C.YF.step (r _ (by simp)),Qz _ _ _ C.om (by simp) C.Wj,C.Yk,C.om,λj hj=>(C.kids j hj).step (r _ (by simp)),λj m hm=>?_⟩
 ·dsimp only;rw[GZ];split
  ·cases Ql M.N j<;>rfl
  ·rfl
 ·dsimp only at hm;rw[GZ]at hm;by_cases hj:j=id
  ·subst hj;rw[Qf rfl,hn,K0]at hm;cases hm;refine⟨?_,e2⟩;rw[Qs (Qc e1)];unfold qD;rw[hc]
  ·rw[Qd hj]at hm;obtain⟨g1,g2⟩:=C.JF j m hm;exact⟨Qz _ _ _ g2 (by simpa using hj) g1,g2⟩
 ·dsimp only at hm;rw[GZ]at hm;by_cases hj:j=id
  ·subst hj;rw[Qf rfl,hn,K0]at hm;cases hm;rw[hc]at hl ⊢;rw[hq];obtain⟨kk,g1,g2⟩:=C.Wy j n hn hl;exact⟨kk,g1,g2.step (r _ (by simp))⟩
  ·rw[Qd hj]at hm;obtain⟨kk,g1,g2⟩:=C.Wy j m hm hl;exact⟨kk,g1,g2.step (r _ (by simp))⟩
 ·dsimp only at hm;rw[GZ]at hm;by_cases hj:j=id
  ·subst hj;rw[Qf rfl,hn,K0]at hm;cases hm;exact Ja
  ·rw[Qd hj]at hm;exact C.q9 j m hm
theorem ZS.zS{h':List Ob}{id:Int}{n:Nd}(hn:Ql M.N id=some n)(hl:n.c.leaf=true){k:Nat}(hk:n.c.Z5=k){q':Qu}(Q:xB (λl=>own l=.zS id) h' (L.lq id) k n.c.bytes q')(s:Step (λl=>own l=.zS id) h h'):ZS (QX own h (.zS id)) h' p L { M with N:=Vm M.N id λn=>{ n with q:=q' } }:=by
 have r:=C.rest s;have kk:∀l o t,own l=t->t≠.zS id->h[l]? = some o->h'[l]? = some o/\QX own h (.zS id) l=t:=λl o t h1 h2 h3=>by
  obtain⟨a,b⟩:=r t h2 l (Qc h3) h1;exact⟨b.trans h3,a⟩
 have GZ:=vq (N:=M.N) (id:=id) (f:=λn=>{ n with q:=q' }) (λ_=>rfl);refine⟨(kk _ _ _ C.op (by simp) C.ob).1,(kk _ _ _ C.op (by simp) C.ob).2,C.tr.step (r _ (by simp)),(kk _ _ _ C.ow (by simp) C.VD).1,C.XI.to λj=>?_,(kk _ _ _ C.ow (by simp) C.VD).2,λj m hm=>?_,λj m hm Fc=>?_,C.q8.step (r _ (by simp)),C.YF.step (r _ (by simp)),(kk _ _ _ C.om (by simp) C.Wj).1,C.Yk,(kk _ _ _ C.om (by simp) C.Wj).2,λj hj=>(C.kids j hj).step (r _ (by simp)),λj m hm=>?_⟩
 ·dsimp only;rw[GZ];split
  ·cases Ql M.N j<;>rfl
  ·rfl
 ·dsimp only at hm;rw[GZ]at hm;by_cases hj:j=id
  ·subst hj;rw[Qf rfl,hn,K0]at hm;cases hm;obtain⟨g1,g2⟩:=C.JF j n hn;exact kk _ _ _ g2 (by simp) g1
  ·rw[Qd hj]at hm;obtain⟨g1,g2⟩:=C.JF j m hm;exact kk _ _ _ g2 (by simp) g1
 ·dsimp only at hm;rw[GZ]at hm;by_cases hj:j=id
  ·subst hj;rw[Qf rfl,hn,K0]at hm;cases hm;exact⟨k,hk,Q.step λl _ h1=>⟨ng l (.inl h1),rfl⟩⟩
  ·rw[Qd hj]at hm;obtain⟨kk2,g1,g2⟩:=C.Wy j m hm Fc;exact⟨kk2,g1,g2.step (r _ (by simpa using hj))⟩
 ·dsimp only at hm;rw[GZ]at hm;by_cases hj:j=id
  ·subst hj;rw[Qf rfl,hn,K0]at hm;cases hm;have:=C.q9 j n hn;exact⟨this.Jz,this.du,this.sh,this.cp,this.c⟩
  ·rw[Qd hj]at hm;exact C.q9 j m hm
theorem ZS.Qh(c a):ZS own (h.set p (vp M.lk L.t L.b L.o L.v L.m c a)) p L { M with Qh:=c,acc:=a }:=by
 have Qz:∀l o t,own l=t->t≠.sc->h[l]? = some o->(h.set p (vp M.lk L.t L.b L.o L.v L.m c a))[l]? = some o:=λl o t h1 h2 h3=>by
  rw[Qk (λe=>h2 (by rw[<- h1,<- e,C.op]))];exact h3
 have r:∀t,t≠.sc->∀l,l<h.length->own l=t->own l=t/\(h.set p (vp M.lk L.t L.b L.o L.v L.m c a))[l]? = h[l]? := λt ht l hl h1=>⟨h1,Qk (λe=>ht (by rw[<- h1,<- e,C.op]))⟩;refine⟨Qs (Qc C.ob),C.op,C.tr.step (r _ (by simp)),Qz _ _ _ C.ow (by simp) C.VD,C.XI,C.ow,λj m hm=>?_,λj m hm hl=>?_,C.q8.step (r _ (by simp)),C.YF.step (r _ (by simp)),Qz _ _ _ C.om (by simp) C.Wj,C.Yk,C.om,λj hj=>(C.kids j hj).step (r _ (by simp)),C.q9⟩
 ·obtain⟨g1,g2⟩:=C.JF j m hm;exact⟨Qz _ _ _ g2 (by simp) g1,g2⟩
 ·obtain⟨kk,g1,g2⟩:=C.Wy j m hm hl;exact⟨kk,g1,g2.step (r _ (by simp))⟩
end
structure Qy (M:Qq):Prop where
 tree:VR M.T
 yN:yM M.T
 to:M.To=M.T
 nodes:M.T=M.N.map (·.c)
 Yl:Au M.T M.A
 ks:∀id,M.ks id=true↔id=0\/∃n,Ql M.N id=some n/\n.c.leaf=false
 B2:∀x∈M.Lv,(QF M.T x.ki).isSome=true
 wC:∀id,∀x∈M.KT id,∃c,QF M.T x.ki=some c/\c.parent=id
 wD:∀id,∀x∈M.KT id,x.ka<=18446744073709551615
 Qh:M.Qh<=4611686018427387904
 acc:M.acc<=1099511627776
def Qbf(N:List Nd)(id:Int):QF (N.map (·.c)) id=(Ql N id).map (·.c):=by
 unfold QF Ql;rw[List.find?_map];rfl
section
variable {M:Qq}(I:Qy M)
include I
theorem Qy.find(id:Int):QF M.T id=(Ql M.N id).map (·.c):=by rw[I.nodes,Qbf]
theorem Qy.CH(id):∀x∈M.KT id,(QF M.T x.ki).isSome=true:=λx hx=>by
 obtain⟨c,hc,_⟩:=I.wC id x hx;rw[hc];rfl
theorem Qy.some{id}{n:Nd}(h:Ql M.N id=some n):QF M.T id=Option.some n.c:=by rw[I.find,h];rfl
omit I in
theorem Qy.id{id}{n:Nd}(h:Ql M.N id=Option.some n):n.c.iD=id:=by
 have:=y8 h;simpa using this
theorem Qy.Li{id}{n}(h:Ql M.N id=Option.some n):id≠0:=λe=>by
 have:=I.some h;rw[e,Gy I.tree]at this;cases this
theorem Qy.NV{id}{c}(h:QF M.T id=Option.some c):∃n,Ql M.N id=Option.some n/\n.c=c:=by
 rw[I.find]at h;cases hn:Ql M.N id with
 | none=>rw[hn]at h;cases h
 | some n=>rw[hn]at h;exact⟨n,rfl,FP h⟩
end
def WX.nd{S}{h}{p}{L:List It}:WX S h p L->(L.map It.ki).Nodup:=λ⟨a,m,t,c,es,T⟩=>T.ids
def aY{T}(I:VR T){L:List It}(hn:(L.map It.ki).Nodup)(hs:∀x∈L,(QF T x.ki).isSome=true):L.length<=64:=by
 have h1:(L.map It.ki).length<=(T.map (·.iD)).length:=by
  refine List.Nodup.length_le_of_subset hn λi hi=>?_;obtain⟨x,hx,rfl⟩:=Jk.1 hi;obtain⟨c,hc⟩:=FO.1 (hs x hx);exact Jk.2 ⟨c,As I hc,QwX I hc⟩
 have:=I.len;simp only[Kl]at h1;omega
def JR(M:Qq)(id:Int):Bool:=JB M.T M.A id
def VE(M:Qq)(id:Int)(n:Nd):Nat:=if n.c.leaf=true\/JR M id=false then n.cp.fit else max n.cp.fit (xA (M.KT id))
section
variable {own:Nat->Tag}{h:List Ob}{p:Nat}{L:Loc}{M:Qq}(C:ZS own h p L M)(I:Qy M)
include C I
omit I in
theorem ZS.look{id}{n}(hn:Ql M.N id=some n):ZJ L.eb id=some (.ptr (L.le id) 0 0 0):=by
 have:=C.XI.at_ id;rw[hn]at this;exact this
theorem ZS.nh:IM h L.o M.T M.A:=by
 have:=C.q8.toR;rwa [I.to]at this
theorem QA7{id}{n}(hn:Ql M.N id=some n):QV prog 138 h [.ptr p 0 0 0,.ptr (L.le id) 0 0 0] (λd=>d=u64 (VE M id n)):=by
 have ho:=Z3 C.ob;have he:=Z3 (C.JF id n hn).1;have hm:=Z3 C.Wj;have Zg:=Qy.id hn;have Am:=EX (C.nh I) I.tree I.Yl id (I.Li hn);unfold VE;cases hl:n.c.leaf with
 | true=>
  rw[Qf (.inl rfl)];refine Zq Qi 200 func138 rfl ntmps138 results138 rfl λbase w pl F hF Q3 hb=>?_;rw[<- hF]at ho he;have Qg:=Qc ho;have ZZ:=Qc he;simp only[go_sem,Qa,ho,Qg,he,ZZ];apply QH hb [0,1,2,3,4,5,6,7,8,9,10,11,12,13,14,1015,16,17];simp only[go_sem,Qa,ho,Qg,he,ZZ,hl,Go.undef];all_goals first|exact⟨_,rfl,rfl⟩|exact⟨_,rfl⟩|rfl|exact⟨[],(QU _).symm⟩|exact⟨[],(QU _).symm,rfl⟩
 | false=>
  have qB:M.ks id=true:=(I.ks id).2 (.inr ⟨n,hn,hl⟩);have za:=C.Yk.at_ id;rw[Qf qB]at za;have hT:=(C.kids id qB).toR;have jX:JB M.T M.A id=JR M id:=rfl;rw[jX]at Am;cases ha:JR M id with
  | false=>
   rw[ha]at Am;rw[Qf (.inr rfl)];refine Zq Qi 200 func138 rfl ntmps138 results138 rfl λbase w pl F hF Q3 hb=>?_;rw[<- hF]at ho he;have Qg:=Qc ho;have ZZ:=Qc he;simp only[go_sem,Qa,ho,Qg,he,ZZ];apply QH hb [0,1,2,3,4,5,6,7,8,9,10,11,12,13,14,1015,16,17];simp only[go_sem,Qa,ho,Qg,he,ZZ,hl,Go.undef];have yO:JB M.T M.A id=false:=ha;refine Xj hb Ix rfl ?_ (EX ((C.nh I).more (Kh hF)) I.tree I.Yl id (I.Li hn)) rfl λd hR=>?_
   ·simp only[go_sem,Qa,ho,Qg,he,ZZ,hl,Go.undef,Zg,yO]
   subst hR;refine Zr hb ?_;simp only[go_sem,Qa,ho,Qg,he,ZZ,hl,Go.undef,Zg,yO];all_goals first|exact⟨_,rfl,rfl⟩|exact⟨_,rfl⟩|rfl|exact⟨[],(QU _).symm⟩|exact⟨[],(QU _).symm,rfl⟩
  | true=>
   rw[ha]at Am;rw[Qd (by simp)];have yO:JB M.T M.A id=true:=ha;refine Zq Qi 200 func138 rfl ntmps138 results138 rfl λbase w pl F hF Q3 hb=>?_;rw[<- hF]at ho he hm;have Qg:=Qc ho;have ZZ:=Qc he;have QG:=Qc hm;simp only[go_sem,Qa,ho,Qg,he,ZZ,hm,QG];apply QH hb [0,1,2,3,4,5,6,7,8,9,10,11,12,13,14,1015,16,17];simp only[go_sem,Qa,ho,Qg,he,ZZ,hl,Go.undef];refine Xj hb Ix rfl ?_ (EX ((C.nh I).more (Kh hF)) I.tree I.Yl id (I.Li hn)) rfl λd hR=>?_
   ·simp only[go_sem,Qa,ho,Qg,he,ZZ,hl,Go.undef,Zg,yO]
   subst hR;refine Zr hb ?_;simp only[go_sem,Qa,ho,Qg,he,ZZ,hl,Go.undef,Zg,yO];apply QH hb [0,1,2,3,4,5,6,7,8,9,10,11,12,13,14,1015,1016,17];simp only[go_sem,Qa,ho,Qg,he,ZZ,hm,QG,za,Zg];refine Yh hb th (u7 (hT.more (Kh hF)) (I.wD id)) λd hR=>?_;subst hR;refine Zr hb ?_;simp only[go_sem,Qa,ho,Qg,he,ZZ,hm,QG];refine Rp hb QhQ (Qj3 n.cp.fit (xA (M.KT id))) (Qn.flat rfl) λd h hR=>?_;obtain⟨rfl,rfl⟩:=hR;apply XF hb;all_goals first|exact⟨_,rfl,rfl⟩|exact⟨_,rfl⟩|rfl|exact⟨[],(QU _).symm⟩|exact⟨[],(QU _).symm,rfl⟩
end
def QD(M:Qq)(id:Int):Nd:=(Ql M.N id).getD default
def VJ(M:Qq)(id:Int):Qq:=
 if JR M id=true then { M with KT:=λj=>if j=(QD M id).c.parent then YX id (QD M id).sh.time (VE M id (QD M id)) (M.KT (QD M id).c.parent) else M.KT j } else M
def Wl(M:Qq):List Int->Qq
 | []=>M
 | id::r=>Wl (VJ M id) r
def Qk0(M):∀(l r:List Int),Wl M (l++r)=Wl (Wl M l) r
 | [],r=>rfl
 | id::l,r=>Qk0 (VJ M id) l r
def RX(M:Qq)(id:Int):(VJ M id).N=M.N/\(VJ M id).T=M.T/\(VJ M id).To=M.To/\(VJ M id).A=M.A/\(VJ M id).Lv=M.Lv/\(VJ M id).ks=M.ks/\(VJ M id).Qh=M.Qh/\(VJ M id).acc=M.acc/\(VJ M id).lk=M.lk:=by
 unfold VJ;split<;>exact⟨rfl,rfl,rfl,rfl,rfl,rfl,rfl,rfl,rfl⟩
def G0:∀(l:List Int) (M:Qq),(Wl M l).N=M.N/\(Wl M l).T=M.T/\(Wl M l).To=M.To/\(Wl M l).A=M.A/\(Wl M l).Lv=M.Lv/\(Wl M l).ks=M.ks/\(Wl M l).Qh=M.Qh/\(Wl M l).acc=M.acc/\(Wl M l).lk=M.lk
 | [],M=>⟨rfl,rfl,rfl,rfl,rfl,rfl,rfl,rfl,rfl⟩
 | id::l,M=>by
  obtain⟨a1,a2,a3,a4,a5,a6,a7,a8,a9⟩:=G0 l (VJ M id);obtain⟨b1,b2,b3,b4,b5,b6,b7,b8,b9⟩:=RX M id;exact⟨a1.trans b1,a2.trans b2,a3.trans b3,a4.trans b4,a5.trans b5,a6.trans b6,a7.trans b7,a8.trans b8,a9.trans b9⟩
def Qbh{M:Qq}(I:Qy M){id}{n:Nd}(hn:Ql M.N id=some n)(Ja:n.Ok):Qy (VJ M id):=by
 obtain⟨b1,b2,b3,b4,b5,b6,b7,b8,b9⟩:=RX M id;have ZY:QD M id=n:=by unfold QD;rw[hn];rfl
 refine⟨by rw[b2];exact I.tree,by rw[b2];exact I.yN,by rw[b2,b3];exact I.to,by rw[b2,b1];exact I.nodes,by rw[b2,b4];exact I.Yl,by rw[b6,b1];exact I.ks,by rw[b5,b2];exact I.B2,λj x hx=>?_,λj x hx=>?_,by rw[b7];exact I.Qh,by rw[b8];exact I.acc⟩
 ·rw[b2];unfold VJ at hx;split at hx
  ·dsimp only at hx;split at hx
   ·rename_i hj;subst hj;rcases IK.1 hx with rfl|hx
    ·exact⟨n.c,I.some hn,by rw[ZY]⟩
    ·exact I.wC _ x (J8.1 hx).1
   ·exact I.wC _ x hx
  ·exact I.wC _ x hx
 ·unfold VJ at hx;split at hx
  ·dsimp only at hx;split at hx
   ·rcases IK.1 hx with rfl|hx
    ·rw[ZY];have:=Ja.sh.time;show n.sh.time<=_;omega
    ·exact I.wD _ x (J8.1 hx).1
   ·exact I.wD _ x hx
  ·exact I.wD _ x hx
structure RY (own:Nat->Tag) (h:List Ob) (p:Nat) (L:Loc) (M:Qq) (U:List Int) (k:Nat) (s:St):Prop where
 ex:∃own' H,ZS own' H p L (Wl M (U.take k))/\Qy (Wl M (U.take k))/\ZO own h own' H/\s=⟨[(0,.ptr p 0 0 0),(12,ints U),(13,Qb U.length),(14,Qb k)],H⟩
def RY.of{own}{h}{p}{L}{M}{U:List Int}{k}{own'}{H}(C:ZS own' H p L (Wl M (U.take k)))(I:Qy (Wl M (U.take k)))(D:ZO own h own' H):RY own h p L M U k ⟨[(0,.ptr p 0 0 0),(12,ints U),(13,Qb U.length),(14,Qb k)],H⟩:=⟨⟨own',H,C,I,D,rfl⟩⟩
def Qbi{M:Qq}(I:Qy M){id}{n:Nd}(hn:Ql M.N id=some n):M.ks n.c.parent=true:=by
 rw[I.ks];by_cases h0:n.c.parent=0
 ·exact .inl h0
 ·obtain⟨d,hd,hl⟩:=I.tree.J4 n.c (As I.tree (I.some hn)) h0;obtain⟨m,hm,rfl⟩:=I.NV hd;exact .inr ⟨m,hm,hl⟩
def Qbj{own}{h}{p}{L}{M:Qq}(C:ZS own h p L M)(I:Qy M)(leaf):QK prog 198 h [.ptr p 0 0 0,Qb leaf] (λd h'=>∃own',ZS own' h' p L (Wl M (up M.T leaf))/\Qy (Wl M (up M.T leaf))/\ZO own h own' h'):=by
 have ho:=C.ob;have ni:(up M.T leaf).length<=16:=Dj;refine Q6 Qi 200 func198 rfl ntmps198 results198 rfl λbase w pl hb=>?_;have Qg:=Qc ho;simp only[go_sem,Qa,ho,Qg];refine ZN hb iR (uN C.tr.toR I.tree.toTreeInv leaf) λd hR=>?_;subst hR;refine Qe hb ?_;simp only[go_sem,Qa,ho,Qg];obtain⟨U,hU⟩:∃U,U=up M.T leaf:=⟨_,rfl⟩;rw[show J6 M.T 16 leaf=U from hU.symm];rw[<- hU]at ni ⊢;refine Jg (RY own h p L M U) U.length QQ (RY.of (k:=0) C I (ZO.refl own h)) ?_;rintro k _ hk ⟨own',H,Ck,Ik,Dk,rfl⟩;by_cases Qj:k<U.length
 ·have dk:=Q5 Qj;obtain⟨id,Zg⟩:∃id,id=U.getD k 0:=⟨_,rfl⟩;have QA8:id∈up M.T leaf:=by rw[Zg,<- hU];exact WI U 0 k Qj
  obtain⟨e1,e2,e3,e4,e5,e6,e7,e8,e9⟩:=G0 (U.take k) M;have ql:=IE QA8;have Jo:Wl M (U.take (k+1))=VJ (Wl M (U.take k)) id:=by
   rw[getD_take U 0 k Qj,Qk0,<- Zg];rfl
  obtain⟨Mk,G1⟩:∃Mk,Mk=Wl M (U.take k):=⟨_,rfl⟩;rw[<- G1]at Ck Ik e1 e2 e3 e4 e5 e6 e7 e8 e9 Jo;obtain⟨n,hn⟩:∃n,Ql Mk.N id=some n:=by
   rw[<- e2,Ik.find]at ql;cases hq:Ql Mk.N id with
   | none=>rw[hq]at ql;cases ql
   | some n=>exact⟨n,rfl⟩
  have ZY:QD Mk id=n:=by unfold QD;rw[hn];rfl
  have Wi:=Ck.look hn;have ho:=Ck.ob;have Qg:=Qc ho;have ZG:=Ck.VD;have Ar:=Qc ZG;obtain⟨he,_⟩:=Ck.JF id n hn;have ZZ:=Qc he;have hm:=Ck.Wj;have QG:=Qc hm;have qB:=Qbi Ik hn;have za:=Ck.Yk.at_ n.c.parent;rw[Qf qB]at za;have QT:=JX (show k<4611686018427387904 by omega);refine Qe hb ?_;simp only[go_sem,Qa,dk,Qj,<- Zg,ho,Qg,ZG,Ar,Wi];refine ZN hb Ix (EX (Ck.nh Ik) Ik.tree Ik.Yl id (Ik.Li hn)) λd hR=>?_;subst hR;refine Qe hb ?_;simp only[go_sem,Qa,ho,Qg];cases ha:JB Mk.T Mk.A id with
  | false=>
   have Qbk:VJ Mk id=Mk:=by unfold VJ;rw[Qd (by unfold JR;rw[ha];decide)]
   rw[Qbk]at Jo;simp only[go_sem,Qa];exact⟨Qj,_,Qp.frame (by simp only[go_sem,QT]),RY.of (by rw[Jo];exact Ck) (by rw[Jo];exact Ik) Dk⟩
  | true=>
   have zx:VJ Mk id={ Mk with KT:=λj=>if j=n.c.parent then YX id n.sh.time (VE Mk id n) (Mk.KT n.c.parent) else Mk.KT j }:=by
    unfold VJ;rw[Qf (show JR Mk id=true from ha),ZY]
   have hT:=Ck.kids _ qB;have RZ:=Qy.id hn;have ID:=aY Ik.tree hT.nd (Ik.CH _);simp only[go_sem,Qa];apply Va [19] hb [0,1,2,3,4,5,6,7,8,9,10,11,12,13,14,15,16,17,1018,1019] [];simp only[go_sem,Qa,ho,Qg,he,ZZ,hm,QG,za];refine Yh hb QhL (QA7 Ck Ik hn) λd hR=>?_;subst hR;refine Zr hb ?_;simp only[go_sem,Qa,ho,Qg];refine xv hb QvT (QxZ hT id n.sh.time (VE Mk id n) (by omega)) λd h8 hR=>?_;obtain⟨T8,s8⟩:=hR;have C8:=Ck.YE _ qB T8 s8;apply XF hb;rw[zx]at Jo;exact⟨Qj,_,Qp.frame (by simp only[go_sem,QT]),RY.of (by rw[Jo];exact C8) (by rw[Jo,<- zx];exact Qbh Ik hn (Ck.q9 id n hn)) (Dk.trans (ZO.of (by simp) s8))⟩
 ·have Ju:k=U.length:=by omega
  have dk:=QN Qj;rw[Ju,YO]at Ck Ik;refine Qe hb ?_;simp only[go_sem,Qa,dk];exact⟨own',Ck,Ik,Dk⟩
end Go.Fg.X
