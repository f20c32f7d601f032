/- The statement CoreOrder is proved. No conditions. -/
import Derived.Test.YtklmjinbhnoppaaGreatGO2
import Derived.Test.YtklmjinbhnoppaaGreatRows
set_option maxRecDepth 100000
set_option maxHeartbeats 16000000
set_option linter.unusedVariables false
set_option linter.unusedSimpArgs false
set_option linter.unusedSectionVars false
namespace Go.Fg.X
open Go.Proofs Go.Fg
open Go.Proofs.Tryz
def K7 (own:Nat→Tag) (h:List Ob) (d:D) (l:List Pk):Prop:=(d=.nil∧l=[])∨∃lo g row,d=.ref lo g 0 l.length∧own lo=.no∧h[lo]? = some ⟨.arr,g,6,l.length,row⟩∧∀i,i<l.length→row i=(l.getD i default).cells
theorem K7.X4 {own own':Nat→Tag} {h h':List Ob} {d:D} {l:List Pk} (D:QZ own h own' h'):K7 own h d l→K7 own' h' d l:=fun H=>H.imp id fun⟨lo,g,row,h1,h2,h3,h4⟩=>
 ⟨lo,g,row,h1,by rw[D.same lo (Qd h3),h2],by rw[D.keep lo (Qd h3) h2];exact h3,h4⟩
def Qbu (d d':D):Prop:=∀lo g n CW g' n',d=.ref lo g 0 n→d'=.ref CW g' 0 n'→lo≠CW
theorem K7.lt {own:Nat→Tag} {h:List Ob} {d:D} {l:List Pk} (H:K7 own h d l) {lo g n:Nat} (e:d=.ref lo g 0 n):lo<h.length:=by
 rcases H with ⟨h1,_⟩|⟨CX,g2,row,h1,h2,h3,h4⟩
 ·rw[e]at h1;cases h1
 ·rw[e]at h1;cases h1;exact Qd h3
theorem K7.J1 {own:Nat→Tag} {h:List Ob} {d:D} {l:List Pk} (H:K7 own h d l) {lo:Nat} (QD:∀CW g n,d=.ref CW g 0 n→CW≠lo) (o:Ob):K7 own (h.set lo o) d l:=
 H.imp id fun⟨CX,g2,row,h1,h2,h3,h4⟩=>⟨CX,g2,row,h1,h2,by rw[Qt (fun e=>QD _ _ _ h1 e.symm)];exact h3,h4⟩
theorem K7.app {own:Nat→Tag} {h:List Ob} {d:D} {l:List Pk} (H:K7 own h d l) (g:List Ob):K7 (Za own h .no) (h++g) d l:=H.X4 (QZ.app own h g .no)
theorem aZ {own:Nat→Tag} {h:List Ob} {t:Tag} {l:Nat} (hl:h.length≤l):Za own h t l=t:=by unfold Za;rw[if_pos hl]
theorem K7.one {own:Nat→Tag} {h:List Ob} (a b:Ob) (x:Pk) (g:List Ob):K7 (Za own h .no) (h++(a::b::⟨.arr,0,6,1,fun _=>x.cells⟩::g)) (.ref (h.length+2) 0 0 1) ([]++[x]):=
 .inr ⟨h.length+2,0,fun _=>x.cells,rfl,aZ (by omega),by rw[KW (k:=2) rfl];rfl,fun i hi=>by
  obtain rfl:i=0:=by simp at hi;omega
  rfl⟩
theorem K7.push {own:Nat→Tag} {h:List Ob} {lo g:Nat} {row:Nat→List D} {L:List Pk} (ht:own lo=.no) (hl:lo<h.length) (hr:∀i,i<L.length→row i=(L.getD i default).cells) (x:Pk) (g2:List Ob) :
  K7 (Za own (h.set lo ⟨.arr,g+1,6,L.length+1,Jx L.length 0 row fun _=>x.cells⟩) .no) (h.set lo ⟨.arr,g+1,6,L.length+1,Jx L.length 0 row fun _=>x.cells⟩++g2) (.ref lo (g+1) 0 (L.length+1)) (L++[x]):=
 .inr ⟨lo,g+1,Jx L.length 0 row fun _=>x.cells,by simp,by rw[qc (by simpa using hl)];exact ht,by rw[QU (by simpa using hl),Qw hl];simp,Qap hr⟩
theorem K7.QrN {own:Nat→Tag} {h:List Ob} (a:Ob) (x:Pk) (g:List Ob):K7 (Za own h .no) (h++(a::⟨.arr,0,6,1,fun _=>x.cells⟩::g)) (.ref (h.length+1) 0 0 1) ([]++[x]):=
 .inr ⟨h.length+1,0,fun _=>x.cells,rfl,aZ (by omega),by rw[KW (k:=1) rfl];rfl,fun i hi=>by
  obtain rfl:i=0:=by simp at hi;omega
  rfl⟩
theorem Qbv (u:Nat) (a b:D):∀fr:List (Nat × D),put (put fr u a) u b=put fr u b
 | []=>by simp [put]
 | (t,e)::r=>by
  cases h:Nat.beq t u with
  | true=>simp [put,h]
  | false=>simp [put,h,Qbv u a b r]
theorem Qbw {w0:Start} (hF:w0.F=[]) (hp:w0.pl=[]) {own:Nat→Tag} {fr:List (Nat × D)} {h:List Ob} {d:D} {L:List Pk} (t:Nat) (ht:get fr t=d) (hS:K7 own h d L) :
  ∃row h',Qk w0 ⟨fr,h⟩ ⟨put fr t (.imm 6 L.length row),h'⟩∧(∀i,i<L.length→row i=(L.getD i default).cells)∧∀l,l<h.length→(∀g n,d≠.ref l g 0 n)→h'[l]? = h[l]? := by
 have xU:w0.pl.length=w0.F.length:=by rw[hF,hp];rfl
 have hg:∀h:List Ob,pR w0.F h:=fun h l o e=>by rw[hF]at e;simp at e
 have hz:∀n,w0.F.length≤n:=fun n=>by rw[hF];exact Nat.zero_le _
 rcases hS with ⟨rfl,rfl⟩|⟨lo,g,row,rfl,Fu,zA,jz⟩
 ·refine⟨rowFrom 0 (fun _=>[]),h++[(⟨.arr,0,6,0,fun _=>[]⟩:Ob).gone],?_,fun i hi=>absurd hi (Nat.not_lt_zero i),fun l hl QD=>QU hl⟩
  ·have W1:=Qk.QrD (w0:=w0) (h:=h) t 6 ht
   have W2:=Qk.Nt xU (hg _) t h.length (hz _) (fr:=put fr t (.ref h.length 0 0 0)) (h:=h++[(⟨.arr,0,6,0,fun _=>[]⟩:Ob)]) (o:=⟨.arr,0,6,0,fun _=>[]⟩) (off:=0) (len:=0) (by rw[yB,if_pos rfl]) (Kc rfl) (Nat.le_refl 0) rfl (fun i hi=>absurd hi (Nat.not_lt_zero i))
   rw[Qbv,MG rfl]at W2
   exact Qk.trans W1 W2
 ·refine⟨rowFrom 0 row,_,Qk.Nt xU (hg _) t lo (hz _) ht zA (by show 0+L.length≤L.length;omega) rfl (fun i hi=>?_),fun i hi=>?_,fun l hl QD=>?_⟩
  ·show (row i).all D.ko=true
   rw[jz i hi];rfl
  ·rw[DO,Nat.zero_add,jz i hi]
  ·exact Qt fun e=>QD g L.length (by rw[e])
structure q8 (p:Nat) (leaf:Int) (c:Cf) (l:List Act) (k:Nat) (s:St):Prop where
 ex:∃own H M WT Wy Li Lo,J7 own H p M∧K7 own H WT Li∧K7 own H Wy Lo∧Qbu WT Wy∧Lo++ZV M leaf=Li∧(k=0→M=M0 c∧Li=[]∧Lo=[])∧Li.length≤k ∧
  s=⟨[(2,Qb leaf),(7,.ptr p 0 0 0),(8,Qb 0),(9,WT),(10,Wy),(30,Ks l),(31,Qb l.length),(32,Qb k)],H⟩
theorem q8.of {p:Nat} {leaf:Int} {c:Cf} {l:List Act} {k:Nat} {own:Nat→Tag} {H:List Ob} {M:Qh} {WT Wy:D} {Li Lo:List Pk} (C:J7 own H p M) (h1:K7 own H WT Li) (h2:K7 own H Wy Lo) (h3:Qbu WT Wy) (h4:Lo++ZV M leaf=Li) (h5:k=0→M=M0 c∧Li=[]∧Lo=[]) (h6:Li.length≤k) :
  q8 p leaf c l k ⟨[(2,Qb leaf),(7,.ptr p 0 0 0),(8,Qb 0),(9,WT),(10,Wy),(30,Ks l),(31,Qb l.length),(32,Qb k)],H⟩:=⟨⟨own,H,M,WT,Wy,Li,Lo,C,h1,h2,h3,h4,h5,h6,rfl⟩⟩
theorem QrO (c:Cf) (l:List Act) (hc:∀a∈l,Act.Ok a) (leaf:Int):Q8 prog 4 [.agg c.cells,Ks l,Qb leaf] (Ql (QN true)):=by
 have hF:=OV l
 have hM:=OU c
 cases hf:zW l with
 | false=>
  rw[hf]at hF
  refine Zb 0 Qe 200 func4 rfl ntmps4 results4 rfl fun base w hb=>?_
  simp only[go_sem,simprocAttr]
  refine QE hb kF rfl ?_ hF (Ql.flat rfl) rfl fun d h hR=>?_
  ·simp only[go_sem,simprocAttr]
  obtain⟨rfl,rfl⟩:=hR
  refine Qc hb ?_
  simp only[go_sem,simprocAttr]
  refine QE hb qE rfl ?_ q6 (Ql.flat rfl) rfl fun d h hR=>?_
  ·simp only[go_sem,simprocAttr]
  obtain⟨rfl,rfl⟩:=hR
  refine Qc hb ?_
  simp only[go_sem,simprocAttr]
 | true=>
 rw[hf]at hF
 cases hm:CN c with
 | false=>
  rw[hm]at hM
  refine Zb 0 Qe 200 func4 rfl ntmps4 results4 rfl fun base w hb=>?_
  simp only[go_sem,simprocAttr]
  refine QE hb kF rfl ?_ hF (Ql.flat rfl) rfl fun d h hR=>?_
  ·simp only[go_sem,simprocAttr]
  obtain⟨rfl,rfl⟩:=hR
  refine Qc hb ?_
  simp only[go_sem,simprocAttr]
  refine QE hb BL rfl ?_ hM (Ql.flat rfl) rfl fun d h hR=>?_
  ·simp only[go_sem,simprocAttr]
  obtain⟨rfl,rfl⟩:=hR
  refine Qc hb ?_
  simp only[go_sem,simprocAttr]
  refine QE hb qE rfl ?_ q6 (Ql.flat rfl) rfl fun d h hR=>?_
  ·simp only[go_sem,simprocAttr]
  obtain⟨rfl,rfl⟩:=hR
  refine Qc hb ?_
  simp only[go_sem,simprocAttr]
 | true=>
 rw[hm]at hM
 have K:=aN.1 hm
 have Iz:=O1 hf
 refine Zb 0 Qe 200 func4 rfl ntmps4 results4 rfl fun base w hb=>?_
 simp only[go_sem,simprocAttr]
 refine QE hb kF rfl ?_ hF (Ql.flat rfl) rfl fun d h hR=>?_
 ·simp only[go_sem,simprocAttr]
 obtain⟨rfl,rfl⟩:=hR
 refine Qc hb ?_
 simp only[go_sem,simprocAttr]
 refine QE hb BL rfl ?_ hM (Ql.flat rfl) rfl fun d h hR=>?_
 ·simp only[go_sem,simprocAttr]
 obtain⟨rfl,rfl⟩:=hR
 refine Qc hb ?_
 simp only[go_sem,simprocAttr]
 refine QT hb Rr rfl ?_ (aQ (fun _=>.no) [jP c] K) rfl fun d h1 hR=>?_
 ·simp only[go_sem,simprocAttr,Qa]
 obtain⟨JL,p,rfl,C1,D1⟩:=hR
 refine Qc hb ?_
 simp only[go_sem,simprocAttr,Qa]
 refine Zv (q8 p leaf c l) l.length (s0:=⟨[(2,Qb leaf),(7,.ptr p 0 0 0),(8,Qb 0),(9,.nil),(10,.nil),(30,Ks l),(31,Qb l.length),(32,Qb 0)],h1⟩) (Qk.frame (by simp only[go_sem,simprocAttr])) (q8.of (k:=0) C1 (.inl ⟨rfl,rfl⟩) (.inl ⟨rfl,rfl⟩) (fun _ _ _ _ _ _ h=>by cases h) rfl (fun _=>⟨rfl,rfl,rfl⟩) (Nat.le_refl 0)) ?_
 rintro k _ hk ⟨⟨Kr,H,M,WT,Wy,Li,Lo,C2,hi,Y0,Xn,hq,h0,hLi,rfl⟩⟩
 by_cases Qn:k<l.length
 ·have dk:=decide_eq_true Qn
  obtain⟨x,hx⟩:∃x,x=l.getD k default:=⟨_,rfl⟩
  have yq:x∈l:=by rw[hx];exact jo l default k Qn
  have Jh:=hc x yq
  have ZP:=Qbi hf yq
  obtain⟨now,Vo⟩:∃n:Nat,x.now=n:=⟨x.now.toNat,by have:=Jh.now;omega⟩
  have CK:now<18446744073709551616:=by have:=Jh.now;omega
  have hu:u64 now=.raw (.int .u64 x.now):=by rw[Vo];rfl
  have Q3:=JX (show k<4611686018427387904 by omega)
  have hLo:Lo.length≤Li.length:=by rw[← hq];simp
  have C3:=C2.VP [wU x]
  have D3:=QZ.app Kr H [wU x] .no
  by_cases k0:x.kind=0
  ·have e0:(x.kind==0)=true:=by simpa using k0
   have hT:=Ft C3 now
   rw[hu]at hT
   refine Qc hb ?_
   simp only[go_sem,simprocAttr,Qa,dk,Qn,← hx,e0]
   refine QT hb DQ rfl ?_ hT rfl fun d h2 hR=>?_
   ·simp only[go_sem,simprocAttr,Qa]
   have qq:=QrK M now leaf
   have O5:∀(g:List Ob) (q4:Nat→Tag) (h2:List Ob),QZ q4 h2 (Za q4 h2 .no) (h2++g):=fun g o h=>QZ.app o h g .no
   by_cases zX:XC M now=true∧jU M now=leaf
   ·rw[if_pos zX]at qq
    obtain⟨xq,tl,ba,qT⟩:=QrL C2.I C2.V zX.1
    rw[zX.2]at ba
    rw[ba,List.tail_cons]at qq
    rw[ba]at hq
    rw[zX.1,zX.2,qT]at hR
    obtain⟨rfl,q4,C4,D4⟩:=hR
    have IN:=hi.X4 (D3.trans D4)
    have eL:(leaf==leaf)=true:=by simp
    rcases Y0.X4 (D3.trans D4) with ⟨rfl,Kp⟩|⟨lo,g,row,rfl,Fu,zA,jz⟩
    ·refine Qc hb ?_
     simp only[go_sem,simprocAttr,Qa,Go.undef,eL]
     refine⟨Qn,_,Qk.frame (fr':=[(2,Qb leaf),(7,.ptr p 0 0 0),(8,Qb 0),(9,WT),(10,.ref (h2.length+2) 0 0 1),(30,Ks l),(31,Qb l.length),(32,Qb (k+1:Nat))]) (by simp only[go_sem,simprocAttr,Q3]),q8.of (C4.VP _) (IN.app _) (K7.one _ _ xq _) (fun lo g n CW g' n' a b=>?_) (by rw[qq,← hq,Kp];rfl) (fun h=>absurd h (Nat.succ_ne_zero k)) (by omega)⟩
     have:=IN.lt a
     cases b
     omega
    ·have yw:=Qd zA
     refine Qc hb ?_
     simp only[go_sem,simprocAttr,Qa,Go.undef,eL,zA,yw]
     refine⟨by omega,Qn,_,Qk.frame (fr':=[(2,Qb leaf),(7,.ptr p 0 0 0),(8,Qb 0),(9,WT),(10,.ref lo (g+1) 0 (Lo.length+1)),(30,Ks l),(31,Qb l.length),(32,Qb (k+1:Nat))]) (by simp only[go_sem,simprocAttr,Q3]),q8.of ((C4.loc Fu _).VP _) ((IN.J1 (fun a b c e=>Xn _ _ _ _ _ _ e rfl) _).app _) (K7.push Fu yw jz xq _) (fun a b n a' b' n' e e'=>?_) (by rw[qq,← hq];simp) (fun h=>absurd h (Nat.succ_ne_zero k)) (by omega)⟩
     cases e'
     exact Xn _ _ _ _ _ _ e rfl
   ·rw[if_neg zX]at qq
    cases hS:XC M now with
    | false=>
     rw[hS]at hR
     obtain⟨rfl,q4,C4,D4⟩:=hR
     refine Qc hb ?_
     simp only[go_sem,simprocAttr,Qa]
     refine⟨Qn,_,Qk.frame (fr':=[(2,Qb leaf),(7,.ptr p 0 0 0),(8,Qb 0),(9,WT),(10,Wy),(30,Ks l),(31,Qb l.length),(32,Qb (k+1:Nat))]) (by simp only[go_sem,simprocAttr,Q3]),q8.of (C4.VP _) (hi.X4 ((D3.trans D4).trans (O5 _ _ _))) (Y0.X4 ((D3.trans D4).trans (O5 _ _ _))) (Xn) (by rw[qq];exact hq) (fun h=>absurd h (Nat.succ_ne_zero k)) (by omega)⟩
    | true=>
     have eL:(jU M now==leaf)=false:=by simpa [hS] using zX
     rw[hS]at hR
     obtain⟨rfl,q4,C4,D4⟩:=hR
     refine Qc hb ?_
     simp only[go_sem,simprocAttr,Qa,eL]
     refine⟨Qn,_,Qk.frame (fr':=[(2,Qb leaf),(7,.ptr p 0 0 0),(8,Qb 0),(9,WT),(10,Wy),(30,Ks l),(31,Qb l.length),(32,Qb (k+1:Nat))]) (by simp only[go_sem,simprocAttr,Q3]),q8.of (C4.VP _) (hi.X4 ((D3.trans D4).trans (O5 _ _ _))) (Y0.X4 ((D3.trans D4).trans (O5 _ _ _))) (Xn) (by rw[qq];exact hq) (fun h=>absurd h (Nat.succ_ne_zero k)) (by omega)⟩
  ·have e0:(x.kind==0)=false:=by simpa using k0
   by_cases k1:x.kind=1
   ·have e1:(x.kind==1)=true:=by simpa using k1
    have hT:=Fs C3 now CK x.cls x.Xr
    rw[hu]at hT
    have qq:=QrH M now x.cls x.Xr leaf
    obtain⟨E,hE⟩:∃E,E=qi M now x.cls x.Xr:=⟨_,rfl⟩
    rw[← hE]at hT qq
    have Q1:(H++[wU x])[H.length]? = some (wU x):=Kc rfl
    refine Qc hb ?_
    simp only[go_sem,simprocAttr,Qa,dk,Qn,← hx,e0,e1]
    refine QT hb DS rfl ?_ hT rfl fun d h2 hR=>?_
    ·simp only[go_sem,simprocAttr,Qa]
    obtain⟨rfl,q4,C4,D4⟩:=hR
    have IP:h2[H.length]? = some (wU x):=by rw[D4.keep H.length (by simp) (aZ (Nat.le_refl _))];exact Q1
    have O6:=Qd IP
    have IN:=hi.X4 (D3.trans D4)
    have vu:=Y0.X4 (D3.trans D4)
    by_cases zX:E=0∧x.cls=leaf
    ·rw[if_pos zX]at qq
     have eE:(E==0)=true:=by simpa using zX.1
     have eL:(x.cls==leaf)=true:=by simpa using zX.2
     rcases IN with ⟨rfl,Kp⟩|⟨lo,g,row,rfl,Fu,zA,jz⟩
     ·refine Qc hb ?_
      simp only[go_sem,simprocAttr,Qa,Go.undef,eE,eL,IP,O6]
      refine⟨Qn,_,Qk.frame (fr':=[(2,Qb leaf),(7,.ptr p 0 0 0),(8,Qb 0),(9,.ref (h2.length+1) 0 0 1),(10,Wy),(30,Ks l),(31,Qb l.length),(32,Qb (k+1:Nat))]) (by simp only[go_sem,simprocAttr,Q3]),q8.of (C4.VP _) (K7.QrN _ x.Xr _) (vu.app _) (fun lo g n CW g' n' a b=>?_) (by rw[qq,← List.append_assoc,hq,Kp]) (fun h=>absurd h (Nat.succ_ne_zero k)) (by simp)⟩
      have:=vu.lt b
      cases a
      omega
     ·have yw:=Qd zA
      refine Qc hb ?_
      simp only[go_sem,simprocAttr,Qa,Go.undef,eE,eL,IP,O6,zA,yw]
      refine⟨by omega,Qn,_,Qk.frame (fr':=[(2,Qb leaf),(7,.ptr p 0 0 0),(8,Qb 0),(9,.ref lo (g+1) 0 (Li.length+1)),(10,Wy),(30,Ks l),(31,Qb l.length),(32,Qb (k+1:Nat))]) (by simp only[go_sem,simprocAttr,Q3]),q8.of ((C4.loc Fu _).VP _) (K7.push Fu yw jz x.Xr _) ((vu.J1 (fun a b c e=>(Xn _ _ _ _ _ _ rfl e).symm) _).app _) (fun a b n a' b' n' e e'=>?_) (by rw[qq,← List.append_assoc,hq]) (fun h=>absurd h (Nat.succ_ne_zero k)) (by simp;omega)⟩
      cases e
      exact Xn _ _ _ _ _ _ rfl e'
    ·rw[if_neg zX]at qq
     cases WB:(E==0) with
     | false=>
      refine Qc hb ?_
      simp only[go_sem,simprocAttr,Qa,WB,IP,O6]
      refine⟨Qn,_,Qk.frame (fr':=[(2,Qb leaf),(7,.ptr p 0 0 0),(8,Qb 0),(9,WT),(10,Wy),(30,Ks l),(31,Qb l.length),(32,Qb (k+1:Nat))]) (by simp only[go_sem,simprocAttr,Q3]),q8.of C4 (hi.X4 (D3.trans D4)) (Y0.X4 (D3.trans D4)) Xn (by rw[qq];exact hq) (fun h=>absurd h (Nat.succ_ne_zero k)) (by omega)⟩
     | true=>
      have eL:(x.cls==leaf)=false:=by
       rw[beq_eq_false_iff_ne]
       exact fun h=>zX ⟨by simpa using WB,h⟩
      refine Qc hb ?_
      simp only[go_sem,simprocAttr,Qa,WB,eL,IP,O6]
      refine⟨Qn,_,Qk.frame (fr':=[(2,Qb leaf),(7,.ptr p 0 0 0),(8,Qb 0),(9,WT),(10,Wy),(30,Ks l),(31,Qb l.length),(32,Qb (k+1:Nat))]) (by simp only[go_sem,simprocAttr,Q3]),q8.of C4 (hi.X4 (D3.trans D4)) (Y0.X4 (D3.trans D4)) Xn (by rw[qq];exact hq) (fun h=>absurd h (Nat.succ_ne_zero k)) (by omega)⟩
   ·have e1:(x.kind==1)=false:=by simpa using k1
    by_cases kz:k=0
    ·obtain⟨rfl,rfl,rfl⟩:=h0 kz
     have eK:((k:Int)==0)=true:=by simp [kz]
     refine Qc hb ?_
     simp only[go_sem,simprocAttr,Qa,dk,Qn,← hx,e0,e1,eK]
     refine QT hb MI rfl ?_ (OY C3 x.idle x.changes Jh.aR ZP) rfl fun d h2 hR=>?_
     ·simp only[go_sem,simprocAttr,Qa]
     obtain⟨rfl,q4,C4,D4⟩:=hR
     refine Qc hb ?_
     simp only[go_sem,simprocAttr,Qa]
     exact⟨Qn,_,Qk.frame (fr':=[(2,Qb leaf),(7,.ptr p 0 0 0),(8,Qb 0),(9,WT),(10,Wy),(30,Ks l),(31,Qb l.length),(32,Qb (k+1:Nat))]) (by simp only[go_sem,simprocAttr,Q3]),q8.of C4 (hi.X4 (D3.trans D4)) (Y0.X4 (D3.trans D4)) Xn (by rw[QrM];rfl) (fun h=>absurd h (Nat.succ_ne_zero k)) (Nat.zero_le _)⟩
    ·have eK:((k:Int)==0)=false:=by simp;omega
     refine Qc hb ?_
     simp only[go_sem,simprocAttr,Qa,dk,Qn,← hx,e0,e1,eK]
     exact⟨_,Qk.frame (fr':=[(2,Qb leaf),(7,.ptr p 0 0 0),(8,Qb 0),(9,WT),(10,Wy),(30,Ks l),(31,Qb l.length),(32,Qb (k+1:Nat))]) (by simp only[go_sem,simprocAttr,Q3]),q8.of C3 (hi.X4 D3) (Y0.X4 D3) Xn hq (fun h=>absurd h (Nat.succ_ne_zero k)) (by omega)⟩
 ·have ZE:k=l.length:=by omega
  have dk:=decide_eq_false Qn
  obtain⟨r1,H1,W1,qt,hg1⟩:=Qbw (w0:=⟨w,[],[]⟩) rfl rfl (fr:=[(2,Qb leaf),(7,.ptr p 0 0 0),(8,Qb 0),(9,WT),(10,Wy),(30,Ks l),(31,Qb l.length),(32,Qb k)]) 9 (d:=WT) rfl hi
  have Qby:K7 Kr H1 Wy Lo:=Y0.imp id fun⟨CX,g2,row,h1,h2,h3,h4⟩=>⟨CX,g2,row,h1,h2,by rw[hg1 CX (Qd h3) (fun g n e=>Xn _ _ _ _ _ _ e h1 rfl)];exact h3,h4⟩
  have C21:J7 Kr H1 p M:=C2.step fun j hj HX=>⟨rfl,hg1 j hj fun g n e=>by
   rcases hi with ⟨h1,_⟩|⟨CX,g2,row,h1,h2,_⟩
   ·rw[e]at h1;cases h1
   ·rw[e]at h1;cases h1;exact HX.1 h2⟩
  obtain⟨r2,H2,W2,V1,Il⟩:=Qbw (w0:=⟨w,[],[]⟩) rfl rfl (fr:=put [(2,Qb leaf),(7,.ptr p 0 0 0),(8,Qb 0),(9,WT),(10,Wy),(30,Ks l),(31,Qb l.length),(32,Qb k)] 9 (.imm 6 Li.length r1)) 10 (d:=Wy) rfl Qby
  have C22:J7 Kr H2 p M:=C21.step fun j hj HX=>⟨rfl,Il j hj fun g n e=>by
   rcases Qby with ⟨h1,_⟩|⟨CX,g2,row,h1,h2,_⟩
   ·rw[e]at h1;cases h1
   ·rw[e]at h1;cases h1;exact HX.1 h2⟩
  refine xu (Qk.trans W1 W2) ?_
  simp only[go_sem,simprocAttr]
  obtain⟨Q,hQ⟩:∃Q,Q=ZV M leaf:=⟨_,rfl⟩
  have hP:=aY C22 leaf
  rw[← hQ]at hP hq
  unfold WO at hP
  have hlen:Lo.length+Q.length=Li.length:=by rw[← hq];simp
  have w1:IntKind.i64.wrap ((Lo.length:Int)+(Q.length:Int))=(Li.length:Int):=by rw[wrap64 (by omega) (by omega)];omega
  refine Qc hb ?_
  simp only[go_sem,simprocAttr,Qa,dk]
  refine Qc hb ?_
  simp only[go_sem,simprocAttr,Qa]
  refine QK hb Rs rfl ?_ hP rfl fun d hR=>?_
  ·simp only[go_sem,simprocAttr,Qa,w1,bne_self_eq_false]
  subst hR
  refine Qc hb ?_
  simp only[go_sem,simprocAttr,Qa,w1,bne_self_eq_false]
  refine⟨by omega,?_⟩
  have hgi:∀i,i<Lo.length→Li.getD i default=Lo.getD i default:=fun i hi=>by
   rw[← hq];simp [List.getD_eq_getElem?_getD,List.getElem?_append_left hi]
  have hgj:∀i,i<Q.length→Li.getD (Lo.length+i) default=Q.getD i default:=fun i hi=>by
   rw[← hq];simp [List.getD_eq_getElem?_getD,List.getElem?_append_right]
  refine QE hb Rt rfl ?_ (aX Lo (by omega)) (Ql.flat rfl) rfl fun d h hR=>?_
  ·simp only[go_sem,simprocAttr,WO]
   exact⟨fun i hi=>V1 i hi,by omega,fun i hi=>by rw[qt i (by omega),hgi i hi];rfl⟩
  obtain⟨rfl,rfl⟩:=hR
  refine Qc hb ?_
  simp only[go_sem,simprocAttr]
  refine⟨by omega,?_⟩
  refine QE hb Rt rfl ?_ (aX Q (by omega)) (Ql.flat rfl) rfl fun d h hR=>?_
  ·simp only[go_sem,simprocAttr,WO]
   exact⟨by omega,fun i hi=>by rw[qt _ (by omega),hgj i hi];rfl⟩
  obtain⟨rfl,rfl⟩:=hR
  refine Qc hb ?_
  simp only[go_sem,simprocAttr]
  refine QE hb qE rfl ?_ q6 (Ql.flat rfl) rfl fun d h hR=>?_
  ·simp only[go_sem,simprocAttr]
  obtain⟨rfl,rfl⟩:=hR
  refine Qc hb ?_
  simp only[go_sem,simprocAttr]
end Go.Fg.X
namespace Go.Fg.X
open Go.Proofs Go.Fg Go.Proofs.YtklmjinbhnoppaaGreat
open Go.ChangeShapes Go.WideShapes Go.ChangeAt Go.RowKit
open Go.Proofs.Tryz
theorem QrT:ownKnob prog.godebug=none:=by kernel_rfl
theorem bc:laidOutB prog=true:=by kernel_rfl
theorem QrU (os:Os) (started:os.Started) (H:Type) (enc:TypeId × Value→H) :
  ReturnsInHanded {} checked os 4 .any (Rows.coreOrderSpec.pre6 enc prog f4 Rows.coreOrderRow.domain false) (Rows.coreOrderSpec.post enc prog f4 false true false false):=by
 refine returnsInHanded_of_change (C:=checked) QrT started (by kernel_rfl) func4
  (ChangeSpec.witness6 (enc:=enc) (C:=checked) false ⟨#[],#[.agg #[.int .i64 0,.int .i64 0],.slice none 0 0,.int .i64 0],[]⟩ 12 (by kernel_rfl) (by kernel_rfl) (by kernel_rfl) (by kernel_rfl)) ?_
 intro W base args ds gs before A1 hW Qbn _
 have q7:∀(j:Nat) t v,f4.params[j]? = some t→args[j]? = some v→Value.okWide prog W .any base t v:=A1
 have IE:=hW
 obtain⟨p,q,A3,hV,rfl,Eo,Zy⟩:=hW
 have hA:DataW.TrodAll enc prog W 0 (fun _=>true) true f4.params.toList args.toList ds p:=A3
 rw[params4]at hA q7
 obtain⟨v0,vs0,d0,ds0,p0,q0,DN,rfl,rfl,h0,r0⟩:=trodAll_cons hA
 obtain⟨v1,vs1,d1,ds1,p1,q1,rfl,rfl,rfl,h1,r1⟩:=trodAll_cons r0
 obtain⟨v2,vs2,d2,ds2,p2,q2,rfl,rfl,rfl,h2,r2⟩:=trodAll_cons r1
 obtain⟨rfl,rfl,rfl⟩:=trodAll_nil r2
 obtain rfl:args=#[v0,v1,v2]:=by cases args;simp_all
 obtain⟨rfl,rfl⟩:=trodVars_none hV
 obtain⟨IF,rfl,_⟩:=okWide_struct underlying23 (q7 0 23 v0 rfl rfl)
 obtain⟨a1,IG,II,rfl⟩:=okWide_slice underlying24 (q7 1 24 v1 rfl rfl)
 obtain⟨n2,rfl⟩:=okWide_int underlying3 (q7 2 3 v2 rfl rfl)
 have t0:=h0
 have IJ:∀x∈p0,x.block<W.heap.size:=by obtain⟨m,hm⟩:=t0;exact DataW.trod_lt m _ _ _ hm
 have t1:=h1
 have IK:∀x∈p1,x.block<W.heap.size:=by obtain⟨m,hm⟩:=t1;exact DataW.trod_lt m _ _ _ hm
 have t2:=h2
 have IL:∀x∈p2,x.block<W.heap.size:=by obtain⟨m,hm⟩:=t2;exact DataW.trod_lt m _ _ _ hm
 obtain⟨x0,k0,c0⟩:=Rd.many RX h0
 obtain⟨x1,k1,c1⟩:=Rd.one (Rd.slice 11 underlying24 (by kernel_rfl) (by decide) MX) h1 (RV _ _ _)
 obtain⟨x2,k2,c2⟩:=Rd.one (Rd.int .i64 underlying3) h2 (oX _ _)
 clear A3 A1
 have walk:Calls prog 4 #[.agg IF,.slice a1 IG II,.int .i64 n2] W fun e W'=>e=.returned (.bool true)∧Below W.heap.size W W':=RW (QrO x0 x1 k1.2 x2) W [_,_,_] rfl (fun i hi=>match i,hi with
  | 0,_=>c0
  | 1,_=>c1
  | 2,_=>c2)
 refine walk.mono fun e W' ⟨he,Ko⟩=>?_
 subst he
 exact⟨_,rfl,_,_,_,[],_,[],IE,trodAll_mk1 (shut_bool underlying4 _),(trodAll_cons_mk (Below.trod bc (by kernel_rfl) (of_decide_eq_true (by kernel_rfl)) t0 Ko IJ) (trodAll_cons_mk (Below.trod bc (by kernel_rfl) (of_decide_eq_true (by kernel_rfl)) t1 Ko IK) (trodAll_cons_mk (Below.trod bc (by kernel_rfl) (of_decide_eq_true (by kernel_rfl)) t2 Ko IL) trodAll_mk0))),rfl,Ko.frame _,fun h=>by cases h⟩
theorem QrV:joinedFacts prog 4 f4 Rows.coreOrderSpec Rows.coreOrderRow=true:=by kernel_rfl
theorem QrW:prog.funcNamed Rows.coreOrderRow.func=some 4:=by kernel_rfl
theorem provedCoreOrder:Rows.CoreOrderSaid:=
 OpenClaim.holds_of_wide 4 f4 rfl rfl rfl rfl rfl rfl rfl ⟨rfl,rfl,rfl,rfl,rfl⟩ rfl rfl rfl rfl rfl QrW func4 QrV
  (of_decide_eq_true (by kernel_rfl)) (by unfold Func.isWrapper;first|(rw[if_pos (by decide +kernel)];kernel_rfl)|(rw[if_neg (by decide +kernel)];exact⟨rfl,rfl⟩))
  (fun os started H enc _=>QrU os started H enc)
end Go.Fg.X
namespace Go.Proofs.YtklmjinbhnoppaaGreat
theorem coreOrder_done : Rows.CoreOrderSaid := Go.Fg.X.provedCoreOrder
end Go.Proofs.YtklmjinbhnoppaaGreat
