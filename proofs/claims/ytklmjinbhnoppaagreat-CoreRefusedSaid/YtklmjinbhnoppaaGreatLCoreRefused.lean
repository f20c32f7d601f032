/- The statement CoreRefused is proved. No conditions. -/
import Derived.Test.YtklmjinbhnoppaaGreatGR1
import Derived.Test.YtklmjinbhnoppaaGreatRows
set_option maxRecDepth 100000
set_option maxHeartbeats 16000000
set_option linter.unusedVariables false
set_option linter.unusedSimpArgs false
set_option linter.unusedSectionVars false
namespace Go.Fg.X
open Go.Proofs Go.Fg
open Go.Proofs.Tryz
theorem Qr0 {own:Nat→Tag} {h:List Ob} {p:Nat} {M:Qh} (C:J7 own h p M) (id:Int):(ZV M id).length≤64:=by
 obtain⟨L,c⟩:=C.ex
 unfold ZV Qx
 cases hn:Qg M.N id with
 | none=>exact Nat.zero_le _
 | some n=>
  show n.q.l.length≤64
  cases hl:n.c.leaf with
  | true=>
   obtain⟨k,_,r,ho,a,f,row,T⟩:=c.ro.KL id n hn hl
   have:=T.len
   have:=T.YZ
   omega
  | false=>rw[C.V.jT id n hn hl];exact Nat.zero_le _
section
variable (n:Nd) (x y:Nat) (a:Bool) (f:Nat)
@[go_sem] theorem QvT:(A4 n x y).q.cd=x:=rfl
@[go_sem] theorem QvU:(A4 n x y).q.bd=y:=rfl
theorem Qr1:WU { n with q:={ n.q with cd:=x,bd:=y } } a f=WU (A4 n x y) a f:=rfl
end
theorem QbD:∀{l:List Value},(∀v∈l,VW v v=some true)→XI l l=some true
 | [],_=>rfl
 | a::r,h=>by
  unfold XI
  rw[h a List.mem_cons_self,QbD fun v hv=>h v (List.mem_cons_of_mem _ hv)]
  rfl
theorem Qr2:∀{v:Value},cat v<2→VW v v=some true
 | .int k a,_=>by cases k<;>simp [VW,IntKind.same]
 | .bool a,_=>by simp [VW]
theorem Qr3 {l:List Value} (h:((l.map cat).all fun k=>decide (k<2))=true):∀v∈l,cat v<2:=fun v hv=>by
 have:=List.all_eq_true.1 h (cat v) (List.mem_map.2 ⟨v,hv,rfl⟩)
 simpa using this
def IQ (n:Nd) (a:Bool) (f:Nat):List Value:=(xk (WU n a f)).getD []
section
variable (n:Nd) (a:Bool) (f:Nat)
@[go_sem] theorem QvV:List.take 67 (WU n a f)=WU n a f:=rfl
@[go_sem] theorem QvW:xk (WU n a f)=some (IQ n a f):=rfl
@[go_sem] theorem QvX:Bl (List.map cat (IQ n a f)) [0,0,1,0,0,0,0,0,0,0,0,0,0,0,1,0,1,0,0,0,0,0,0,0,0,1,0,0,0,0,0,0,0,0,1,0,0,0,1,0,0,0,0,0,0,0,0,1,0,1,0,0,0,0,0,0,0,0,1,0,0,0,0,0,0,0,0]=true:=rfl
@[go_sem] theorem QvY:XI (IQ n a f) (IQ n a f)=some true:=QbD fun v hv=>Qr2 (Qr3 (l:=IQ n a f) rfl v hv)
end
theorem Qr4 (c:Cf) (l:List Act) (hc:∀a∈l,Act.Ok a) (a:Act) (ha:a.Ok):Q8 prog 6 [.agg c.cells,Ks l,.agg a.cells] (Ql (QN true)):=by
 have hF:=OV l
 have hM:=OU c
 cases hf:zW l with
 | false=>
  rw[hf]at hF
  refine Zb 0 Qe 200 func6 rfl ntmps6 results6 rfl fun base w hb=>?_
  simp only[go_sem,simprocAttr]
  refine QE hb kF rfl ?_ hF (Ql.flat rfl) rfl fun d h hR=>?_
  ·simp only[go_sem,simprocAttr]
  obtain⟨rfl,rfl⟩:=hR
  refine Qc hb ?_
  simp only[go_sem,simprocAttr]
  refine QE hb qE rfl ?_ q6 (Ql.flat rfl) rfl fun d h hR=>?_
  ·simp only[go_sem,simprocAttr]
  obtain⟨rfl,rfl⟩:=hR
  refine Qc hb ?_
  simp only[go_sem,simprocAttr]
 | true=>
 rw[hf]at hF
 by_cases h40:40<a.changes.length
 ·have d40:decide ((40:Int)<(a.changes.length:Int))=true:=decide_eq_true (by omega)
  refine Zb 0 Qe 200 func6 rfl ntmps6 results6 rfl fun base w hb=>?_
  simp only[go_sem,simprocAttr]
  refine QE hb kF rfl ?_ hF (Ql.flat rfl) rfl fun d h hR=>?_
  ·simp only[go_sem,simprocAttr,d40]
  obtain⟨rfl,rfl⟩:=hR
  refine Qc hb ?_
  simp only[go_sem,simprocAttr,d40]
  refine QE hb qE rfl ?_ q6 (Ql.flat rfl) rfl fun d h hR=>?_
  ·simp only[go_sem,simprocAttr]
  obtain⟨rfl,rfl⟩:=hR
  refine Qc hb ?_
  simp only[go_sem,simprocAttr]
 have d40:decide ((40:Int)<(a.changes.length:Int))=false:=decide_eq_false (by omega)
 cases hm:CN c with
 | false=>
  rw[hm]at hM
  refine Zb 0 Qe 200 func6 rfl ntmps6 results6 rfl fun base w hb=>?_
  simp only[go_sem,simprocAttr]
  refine QE hb kF rfl ?_ hF (Ql.flat rfl) rfl fun d h hR=>?_
  ·simp only[go_sem,simprocAttr,d40]
  obtain⟨rfl,rfl⟩:=hR
  refine Qc hb ?_
  simp only[go_sem,simprocAttr,d40]
  refine QE hb BL rfl ?_ hM (Ql.flat rfl) rfl fun d h hR=>?_
  ·simp only[go_sem,simprocAttr]
  obtain⟨rfl,rfl⟩:=hR
  refine Qc hb ?_
  simp only[go_sem,simprocAttr]
  refine QE hb qE rfl ?_ q6 (Ql.flat rfl) rfl fun d h hR=>?_
  ·simp only[go_sem,simprocAttr]
  obtain⟨rfl,rfl⟩:=hR
  refine Qc hb ?_
  simp only[go_sem,simprocAttr]
 | true=>
 rw[hm]at hM
 have K:=aN.1 hm
 have Iz:=O1 hf
 refine Zb 0 Qe 200 func6 rfl ntmps6 results6 rfl fun base w hb=>?_
 simp only[go_sem,simprocAttr]
 refine QE hb kF rfl ?_ hF (Ql.flat rfl) rfl fun d h hR=>?_
 ·simp only[go_sem,simprocAttr,d40]
 obtain⟨rfl,rfl⟩:=hR
 refine Qc hb ?_
 simp only[go_sem,simprocAttr,d40]
 refine QE hb BL rfl ?_ hM (Ql.flat rfl) rfl fun d h hR=>?_
 ·simp only[go_sem,simprocAttr]
 obtain⟨rfl,rfl⟩:=hR
 refine Qc hb ?_
 simp only[go_sem,simprocAttr]
 refine QT hb Rq rfl ?_ (aS (fun _=>.no) [jP c,wU a] K l hf hc) rfl fun d h1 hR=>?_
 ·simp only[go_sem,simprocAttr,Qa]
 obtain⟨JL,p,rfl,C1,D1⟩:=hR
 have Zp:h1[1]? = some (wU a):=(D1.keep 1 (by simp) rfl).trans rfl
 have j6:h1[0]? = some (jP c):=(D1.keep 0 (by simp) rfl).trans rfl
 have KM:=Qd Zp
 have Qr5:=Qd j6
 refine Qc hb ?_
 simp only[go_sem,simprocAttr,Qa,Zp,KM,j6,Qr5]
 obtain⟨M,Xi⟩:∃M,M=runN (M0 c) l:=⟨_,rfl⟩
 refine QT hb Rq rfl ?_ (aS (fun _=>.no) h1 K l hf hc) rfl fun d h2 hR=>?_
 ·simp only[go_sem,simprocAttr,Qa]
 obtain⟨Kr,p2,rfl,C2,D2⟩:=hR
 rw[← Xi]at C1 C2
 have KO:h2[1]? = some (wU a):=(D2.keep 1 KM rfl).trans Zp
 have qg:=Qd KO
 obtain⟨now,Vo⟩:∃n:Nat,a.now=n:=⟨a.now.toNat,by have:=ha.now;omega⟩
 have CK:now<18446744073709551616:=by have:=ha.now;omega
 have hu:u64 now=.raw (.int .u64 a.now):=by rw[Vo];rfl
 have bf:∀WM h3,QZ Kr h2 WM h3→J7 JL h3 p M:=fun WM h3 D3=>C1.step fun j hj _=>⟨rfl,(D3.keep j (Nat.lt_of_lt_of_le hj D2.len) (D2.same j hj)).trans (D2.keep j hj rfl)⟩
 refine BE Qe hb 10 ?_
 simp only[go_sem,simprocAttr,Qa,KO,qg]
 first|refine Wg ?_|skip
 refine Hq (fun st=>∃WM bg h3 M' r,J7 WM h3 p2 M'∧J7 bg h3 p M∧(r=true→XD M M')∧st=⟨[(7,.ptr p 0 0 0),(8,Qb 0),(9,.ptr p2 0 0 0),(10,Qb 0),(11,QN r)],h3⟩) ?_ ?_
 ·by_cases k0:a.kind=0
  ·have e0:(a.kind==0)=true:=by simpa using k0
   have hT:=Ft C2 now
   rw[hu]at hT
   refine Qc hb ?_
   simp only[go_sem,simprocAttr,Qa,KO,qg,e0]
   refine QT hb DQ rfl ?_ hT rfl fun d h3 hR=>?_
   ·simp only[go_sem,simprocAttr,Qa]
   obtain⟨rfl,WM,C3,D3⟩:=hR
   refine Qc hb ?_
   simp only[go_sem,simprocAttr,Qa]
   refine⟨⟨[(7,.ptr p 0 0 0),(8,Qb 0),(9,.ptr p2 0 0 0),(10,Qb 0),(11,QN (!XC M now))],_⟩,⟨_,_,_,takeN M now,!XC M now,C3.VP _,(bf WM h3 D3).VP _,fun h=>QrX (by simpa using h),rfl⟩,Qk.frame (by simp only[go_sem,simprocAttr])⟩
  ·have e0:(a.kind==0)=false:=by simpa using k0
   by_cases k1:a.kind=1
   ·have e1:(a.kind==1)=true:=by simpa using k1
    have hT:=Fs C2 now CK a.cls a.Xr
    rw[hu]at hT
    refine Qc hb ?_
    simp only[go_sem,simprocAttr,Qa,KO,qg,e0,e1]
    refine QT hb DS rfl ?_ hT rfl fun d h3 hR=>?_
    ·simp only[go_sem,simprocAttr,Qa]
    obtain⟨rfl,WM,C3,D3⟩:=hR
    refine Qc hb ?_
    simp only[go_sem,simprocAttr,Qa]
    refine⟨⟨[(7,.ptr p 0 0 0),(8,Qb 0),(9,.ptr p2 0 0 0),(10,Qb 0),(11,QN (qi M now a.cls a.Xr != 0))],_⟩,⟨_,_,_,VS M now a.cls a.Xr,qi M now a.cls a.Xr != 0,C3,bf WM h3 D3,fun h=>QrY (by simpa using h),rfl⟩,Qk.frame (by simp only[go_sem,simprocAttr])⟩
   ·have e1:(a.kind==1)=false:=by simpa using k1
    refine Qc hb ?_
    simp only[go_sem,simprocAttr,Qa,KO,qg,e0,e1]
    refine QT hb MI rfl ?_ (OY C2 a.idle a.changes ha.aR (by omega)) rfl fun d h3 hR=>?_
    ·simp only[go_sem,simprocAttr,Qa]
    obtain⟨rfl,WM,C3,D3⟩:=hR
    refine Qc hb ?_
    simp only[go_sem,simprocAttr,Qa]
    refine⟨⟨[(7,.ptr p 0 0 0),(8,Qb 0),(9,.ptr p2 0 0 0),(10,Qb 0),(11,QN (YE M a.idle a.changes != 0))],_⟩,⟨_,_,_,VE M a.idle a.changes,YE M a.idle a.changes != 0,C3,bf WM h3 D3,fun h=>QrZ (by simpa using h),rfl⟩,Qk.frame (by simp only[go_sem,simprocAttr])⟩
 rintro s1 ⟨WM,bg,h3,M',r,C3,C1,hRf,rfl⟩
 cases r with
 | false=>
  refine Qc hb ?_
  simp only[go_sem,simprocAttr,Qa]
  refine QE hb qE rfl ?_ q6 (Ql.flat rfl) rfl fun d h hR=>?_
  ·simp only[go_sem,simprocAttr]
  obtain⟨rfl,rfl⟩:=hR
  refine Qc hb ?_
  simp only[go_sem,simprocAttr]
 | true=>
 have Rf:=hRf rfl
 refine Qc hb ?_
 simp only[go_sem,simprocAttr,Qa]
 refine QT hb nV rfl ?_ (QbB C1) rfl fun d h4 hR=>?_
 ·simp only[go_sem,simprocAttr,Qa]
 obtain⟨rfl,R4,g4,rfl⟩:=hR
 have C14:=C1.VP g4
 have C34:=C3.VP g4
 refine Qc hb ?_
 simp only[go_sem,simprocAttr,Qa]
 refine QK hb Gy rfl ?_ (QbC R4 C1.I.tree) rfl fun d hR=>?_
 ·simp only[go_sem,simprocAttr,Qa]
 subst hR
 refine Qc hb ?_
 simp only[go_sem,simprocAttr,Qa]
 obtain⟨ids,O7⟩:∃ids,ids=M.T.map (·.iD):=⟨_,rfl⟩
 have hil:ids.length=M.T.length:=by rw[O7,List.length_map]
 have hTl:=C1.I.tree.len
 rw[← O7]
 refine Zv (fun k s=>∃g,s=⟨[(7,.ptr p 0 0 0),(8,Qb 0),(9,.ptr p2 0 0 0),(10,Qb 0),(16,ints ids),(91,ints ids),(92,Qb ids.length),(93,Qb k)],h3++g⟩) ids.length (s0:=⟨[(7,.ptr p 0 0 0),(8,Qb 0),(9,.ptr p2 0 0 0),(10,Qb 0),(16,ints ids),(91,ints ids),(92,Qb ids.length),(93,Qb 0)],h3++g4⟩) (Qk.frame (by simp only[go_sem,simprocAttr])) ⟨g4,rfl⟩ ?_
 rintro k _ hk ⟨g,rfl⟩
 have CS:∀g,J7 (Za bg h3 .no) (h3++g) p M:=fun g=>C1.VP g
 have CT:∀g,J7 (Za WM h3 .no) (h3++g) p2 M':=fun g=>C3.VP g
 by_cases Qn:k<ids.length
 ·have dk:=decide_eq_true Qn
  obtain⟨id,QQ⟩:∃id,id=ids.getD k 0:=⟨_,rfl⟩
  have Q3:=JX (show k<4611686018427387904 by omega)
  obtain⟨n,hn⟩:∃n,Qg M.N id=some n:=by
   have hm:id∈ids:=by rw[QQ];exact jo ids 0 k Qn
   rw[O7]at hm
   obtain⟨cc,j6,qv⟩:=List.mem_map.1 hm
   have hf:=(KY C1.I.tree.rising).2 ⟨j6,qv⟩
   obtain⟨n,h1,_⟩:=C1.I.HN hf
   exact⟨n,h1⟩
  obtain⟨x,y,hn'⟩:=Rf.N id n hn
  have hG1:=fun g=>QbA (CS g) hn
  have bj:=fun g=>QbA (CT g) hn'
  rw[Rf.act,Rf.fit]at bj
  obtain⟨A,hA⟩:∃A,A=ZG M id:=⟨_,rfl⟩
  obtain⟨F,hF⟩:∃F,F=KD M id n:=⟨_,rfl⟩
  rw[← hA,← hF]at hG1 bj
  refine Qc hb ?_
  simp only[go_sem,simprocAttr,Qa,dk,Qn,← QQ]
  refine QK hb nW rfl ?_ (hG1 _) rfl fun d hR=>?_
  ·simp only[go_sem,simprocAttr,Qa]
  subst hR
  refine Qc hb ?_
  simp only[go_sem,simprocAttr,Qa]
  refine QK hb nW rfl ?_ (bj _) rfl fun d hR=>?_
  ·simp only[go_sem,simprocAttr,Qa]
  subst hR
  refine Qc hb ?_
  simp only[go_sem,simprocAttr,Qa]
  refine wB (⟨[(7,.ptr p 0 0 0),(9,.ptr p2 0 0 0),(8,Qb 0),(10,Qb 0),(16,ints ids),(91,ints ids),(92,Qb ids.length),(93,Qb k),(18,Qb id),(19,.ptr (h3.length+g.length) 0 0 0),(20,Qb 0),(21,.ptr (h3.length+(g.length+1)) 0 0 0),(22,Qb 0)],h3++(g++[QbE (A4 n x y) A F,QbE (A4 n x y) A F])⟩) Qe hb mixed [(0,true),(1,true),(2,true),(3,true),(4,true),(6,true),(7,true)] [5,8,9,10,11] (by kernel_rfl) (by kernel_rfl) (fun s hw=>jD hw rfl ?_) ?_
  rotate_left
  ·simp only[go_sem,simprocAttr,Qa,Xy]
   repeat' refine And.intro ?_ ?_
   all_goals exact Qk.frame (by simp only[go_sem,simprocAttr,Qr1])
  have bk:=fun g=>aY (CS g) id
  have O8:=fun g=>aY (CT g) id
  rw[Rf.q hn]at O8
  obtain⟨Q,hQ⟩:∃Q,Q=ZV M id:=⟨_,rfl⟩
  have hQl:=Qr0 (CS []) id
  have bn:=aX (ZV M id) (by omega)
  rw[← hQ]at bk O8 bn
  unfold WO at bk O8 bn
  refine Qc hb ?_
  simp only[go_sem,simprocAttr,Qa]
  refine QK hb Rs rfl ?_ (bk _) rfl fun d hR=>?_
  ·simp only[go_sem,simprocAttr,Qa]
  subst hR
  refine Qc hb ?_
  simp only[go_sem,simprocAttr,Qa]
  refine QK hb Rs rfl ?_ (O8 _) rfl fun d hR=>?_
  ·simp only[go_sem,simprocAttr,Qa]
  subst hR
  refine Qc hb ?_
  simp only[go_sem,simprocAttr,Qa]
  refine QE hb Rt rfl ?_ bn (Ql.flat rfl) rfl fun d h hR=>?_
  ·simp only[go_sem,simprocAttr,Qa]
  obtain⟨rfl,rfl⟩:=hR
  refine Qc hb ?_
  simp only[go_sem,simprocAttr,Qa]
  exact⟨Qn,_,Qk.frame (by simp only[go_sem,simprocAttr,Q3]),_,rfl⟩
 ·have dk:=decide_eq_false Qn
  refine Qc hb ?_
  simp only[go_sem,simprocAttr,Qa,dk]
  refine Qc hb ?_
  simp only[go_sem,simprocAttr,Qa]
  refine QT hb nV rfl ?_ (QbB (CT _)) rfl fun d h5 hR=>?_
  ·simp only[go_sem,simprocAttr,Qa]
  obtain⟨rfl,R5,g5,rfl⟩:=hR
  have Ga:Kz ((h3++g)++g5) ((h3++g).length+1) M'.T:=R5
  rw[List.append_assoc,List.length_append]at Ga
  have hI:=QbC Ga C3.I.tree
  rw[Rf.T,← O7]at hI
  refine Qc hb ?_
  simp only[go_sem,simprocAttr,Qa]
  refine QK hb Gy rfl ?_ hI rfl fun d hR=>?_
  ·simp only[go_sem,simprocAttr,Qa]
  subst hR
  refine Qc hb ?_
  simp only[go_sem,simprocAttr,Qa]
  have xB:=fun g=>OZ (CS g)
  have BC:=fun g=>OZ (CT g)
  rw[Rf.due]at BC
  have hA1:=fun g=>aP (CS g)
  have hA2:=fun g=>aP (CT g)
  rw[Rf.acc]at hA2
  refine QK hb MH rfl ?_ (xB _) rfl fun d hR=>?_
  ·simp only[go_sem,simprocAttr,Qa]
  subst hR
  refine Qc hb ?_
  simp only[go_sem,simprocAttr,Qa]
  refine QK hb MH rfl ?_ (BC _) rfl fun d hR=>?_
  ·simp only[go_sem,simprocAttr,Qa]
  subst hR
  refine Qc hb ?_
  simp only[go_sem,simprocAttr,Qa]
  refine QK hb Rv rfl ?_ (hA1 _) rfl fun d hR=>?_
  ·simp only[go_sem,simprocAttr,Qa]
  subst hR
  refine Qc hb ?_
  simp only[go_sem,simprocAttr,Qa]
  refine QK hb Rv rfl ?_ (hA2 _) rfl fun d hR=>?_
  ·simp only[go_sem,simprocAttr,Qa]
  subst hR
  refine Qc hb ?_
  simp only[go_sem,simprocAttr,Qa]
  refine QE hb qE rfl ?_ q6 (Ql.flat rfl) rfl fun d h hR=>?_
  ·simp only[go_sem,simprocAttr]
  obtain⟨rfl,rfl⟩:=hR
  refine Qc hb ?_
  simp only[go_sem,simprocAttr]
end Go.Fg.X
namespace Go.Fg.X
open Go.Proofs Go.Fg Go.Proofs.YtklmjinbhnoppaaGreat
open Go.ChangeShapes Go.WideShapes Go.ChangeAt Go.RowKit
open Go.Proofs.Tryz
theorem Qr9:ownKnob prog.godebug=none:=by kernel_rfl
theorem bp:laidOutB prog=true:=by kernel_rfl
theorem Qsa (os:Os) (started:os.Started) (H:Type) (enc:TypeId × Value→H) :
  ReturnsInHanded {} checked os 6 .any (Rows.coreRefusedSpec.pre6 enc prog f6 Rows.coreRefusedRow.domain false) (Rows.coreRefusedSpec.post enc prog f6 false true false false):=by
 refine returnsInHanded_of_change (C:=checked) Qr9 started (by kernel_rfl) func6
  (ChangeSpec.witness6 (enc:=enc) (C:=checked) false ⟨#[],#[.agg #[.int .i64 0,.int .i64 0],.slice none 0 0,.agg #[.int .i64 0,.int .u64 0,.int .i64 0,.int .u64 0,.int .i64 0,.int .u16 0,.int .u16 0,.int .u16 0,.int .u16 0,.bool false,.slice none 0 0]],[]⟩ 12 (by kernel_rfl) (by kernel_rfl) (by kernel_rfl) (by kernel_rfl)) ?_
 intro W base args ds gs before A1 hW Qbn _
 have q7:∀(j:Nat) t v,f6.params[j]? = some t→args[j]? = some v→Value.okWide prog W .any base t v:=A1
 have IE:=hW
 obtain⟨p,q,A3,hV,rfl,Eo,Zy⟩:=hW
 have hA:DataW.TrodAll enc prog W 0 (fun _=>true) true f6.params.toList args.toList ds p:=A3
 rw[params6]at hA q7
 obtain⟨v0,vs0,d0,ds0,p0,q0,DN,rfl,rfl,h0,r0⟩:=trodAll_cons hA
 obtain⟨v1,vs1,d1,ds1,p1,q1,rfl,rfl,rfl,h1,r1⟩:=trodAll_cons r0
 obtain⟨v2,vs2,d2,ds2,p2,q2,rfl,rfl,rfl,h2,r2⟩:=trodAll_cons r1
 obtain⟨rfl,rfl,rfl⟩:=trodAll_nil r2
 obtain rfl:args=#[v0,v1,v2]:=by cases args;simp_all
 obtain⟨rfl,rfl⟩:=trodVars_none hV
 obtain⟨IF,rfl,_⟩:=okWide_struct underlying23 (q7 0 23 v0 rfl rfl)
 obtain⟨a1,IG,II,rfl⟩:=okWide_slice underlying24 (q7 1 24 v1 rfl rfl)
 obtain⟨cs2,rfl,_⟩:=okWide_struct underlying36 (q7 2 36 v2 rfl rfl)
 have t0:=h0
 have IJ:∀x∈p0,x.block<W.heap.size:=by obtain⟨m,hm⟩:=t0;exact DataW.trod_lt m _ _ _ hm
 have t1:=h1
 have IK:∀x∈p1,x.block<W.heap.size:=by obtain⟨m,hm⟩:=t1;exact DataW.trod_lt m _ _ _ hm
 have t2:=h2
 have IL:∀x∈p2,x.block<W.heap.size:=by obtain⟨m,hm⟩:=t2;exact DataW.trod_lt m _ _ _ hm
 obtain⟨x0,k0,c0⟩:=Rd.many RX h0
 obtain⟨x1,k1,c1⟩:=Rd.one (Rd.slice 11 underlying24 (by kernel_rfl) (by decide) MX) h1 (RV _ _ _)
 obtain⟨x2,k2,c2⟩:=Rd.many MX h2
 clear A3 A1
 have walk:Calls prog 6 #[.agg IF,.slice a1 IG II,.agg cs2] W fun e W'=>e=.returned (.bool true)∧Below W.heap.size W W':=RW (Qr4 x0 x1 k1.2 x2 k2) W [_,_,_] rfl (fun i hi=>match i,hi with
  | 0,_=>c0
  | 1,_=>c1
  | 2,_=>c2)
 refine walk.mono fun e W' ⟨he,Ko⟩=>?_
 subst he
 exact⟨_,rfl,_,_,_,[],_,[],IE,trodAll_mk1 (shut_bool underlying4 _),(trodAll_cons_mk (Below.trod bp (by kernel_rfl) (of_decide_eq_true (by kernel_rfl)) t0 Ko IJ) (trodAll_cons_mk (Below.trod bp (by kernel_rfl) (of_decide_eq_true (by kernel_rfl)) t1 Ko IK) (trodAll_cons_mk (Below.trod bp (by kernel_rfl) (of_decide_eq_true (by kernel_rfl)) t2 Ko IL) trodAll_mk0))),rfl,Ko.frame _,fun h=>by cases h⟩
theorem Qsc:joinedFacts prog 6 f6 Rows.coreRefusedSpec Rows.coreRefusedRow=true:=by kernel_rfl
theorem Qsd:prog.funcNamed Rows.coreRefusedRow.func=some 6:=by kernel_rfl
theorem provedCoreRefused:Rows.CoreRefusedSaid:=
 OpenClaim.holds_of_wide 6 f6 rfl rfl rfl rfl rfl rfl rfl ⟨rfl,rfl,rfl,rfl,rfl⟩ rfl rfl rfl rfl rfl Qsd func6 Qsc
  (of_decide_eq_true (by kernel_rfl)) (by unfold Func.isWrapper;first|(rw[if_pos (by decide +kernel)];kernel_rfl)|(rw[if_neg (by decide +kernel)];exact⟨rfl,rfl⟩))
  (fun os started H enc _=>Qsa os started H enc)
end Go.Fg.X
namespace Go.Proofs.YtklmjinbhnoppaaGreat
theorem coreRefused_done : Rows.CoreRefusedSaid := Go.Fg.X.provedCoreRefused
end Go.Proofs.YtklmjinbhnoppaaGreat
