/- The statement CoreDue is proved. No conditions. -/
import Derived.Test.YtklmjinbhnoppaaGreatGO2
import Derived.Test.YtklmjinbhnoppaaGreatRows
set_option maxRecDepth 100000
set_option maxHeartbeats 16000000
set_option linter.unusedVariables false
set_option linter.unusedSimpArgs false
set_option linter.unusedSectionVars false
namespace Go.Fg.X
open Go.Proofs Go.Fg
open Go.Proofs.Tryz
theorem Qbk (l:List Int) (M:Qh):(JT M l).Zd=M.Zd:=(ES l M).2.2.2.2.2.2.1
theorem Qrr (M:Qh) (id:Int):(Xf M id).Zd=M.Zd:=by
 unfold Xf
 split
 ·exact(EZ _ _).2.2.2.1
 ·rfl
theorem Qrs (M:Qh) (id:Int) (r:Bool):(XB M id r).Zd=M.Zd:=by
 unfold XB
 dsimp only
 rw[Qbk]
 have h1:(Vn ((up M.T id).foldl (Ki ((Qx M id).q.l.headD default).len.toNat) (Wc M id)) id ((Qx M id).q.l.headD default).len r).Zd=M.Zd:=by
  rw[(Ov _ _ _ _).2.2.2.2.1,(H9 _ _ _).2.2.2.2.1];rfl
 split
 ·rw[Qrr,h1]
 ·exact h1
theorem Qbl (M:Qh) (now:Nat) (id:Int) (head:Int):(Jl M now id head).Zd=M.Zd:=by
 unfold Jl;split<;>rfl
theorem Qrt (M:Qh) (now:Nat) (id:Int) (head:Int):(qf M now id head).Zd=M.Zd:=by
 unfold qf
 split
 ·rw[Qbk,(EW _ _ _).2.2.2.2.1]
  exact Qbl M now id head
 ·exact Qbl M now id head
theorem Qru (M:Qh) (now:Nat) (cls:Int) (x:Pk):(Kj M now cls x).Zd=M.Zd:=by
 unfold Kj
 split
 ·rfl
 ·split
  ·split
   ·rw[Qrt];rfl
   ·rfl
  ·rfl
theorem aU (M:Qh) (now:Nat):(Zn M now).Zd=M.Zd∨((Zn M now).Zd=now∧now≤4611686018427387904):=by
 unfold Zn
 split
 ·rename_i h
  exact .inr ⟨rfl,(Qrh h).2⟩
 ·exact .inl rfl
theorem Qrv (M:Qh) (a:Act):(CU M a).Zd=M.Zd∨((CU M a).Zd=a.now.toNat∧a.now.toNat≤4611686018427387904):=by
 unfold CU
 split
 ·unfold takeN
  split
  ·exact aU M _
  ·rw[Qrs]
   exact aU M _
 ·split
  ·unfold VS
   split
   ·rw[Qru]
    exact aU M _
   ·exact .inl rfl
  ·refine .inl ?_
   unfold VE
   split
   ·exact(Fc _ _).2.2.2.1
   ·rfl
theorem Qbm (now:Nat):∀(l:List Act) (M:Qh),M.Zd≤now→(∀a∈l,a.now.toNat≤4611686018427387904→a.now.toNat≤now)→(runN M l).Zd≤now
 | [],M,h,_=>h
 | a::l,M,h,ha=>by
  refine Qbm now l (CU M a) ?_ fun b hb=>ha b (List.mem_cons_of_mem _ hb)
  rcases Qrv M a with e|⟨e,h2⟩
  ·rw[e];exact h
  ·rw[e];exact ha a List.mem_cons_self h2
theorem Qrw {M:Qh} (I:Qy M) (V:Inv M) {now:Nat} (hn:now≤4611686018427387904) (hc:M.Zd≤now):XC M now=decide (qn M≤now∧qn M<9223372036854775808):=by
 have ht:qd M now=true:=by
  unfold qd
  simp only[Bool.not_eq_true',Bool.or_eq_false_iff,decide_eq_false_iff_not]
  omega
 have h1:=Qq8 (yr I now) (V.told now) hn (OW (Zn M now) now)
 have h2:qn (Zn M now)=qn M:=by unfold Zn;split<;>rfl
 rw[h2]at h1
 unfold XC qp
 rw[if_pos ht,Bool.eq_iff_iff,h1,decide_eq_true_eq]
 omega
def O3 (now:Nat) (a:Act):Bool:=decide ((now:Int)<a.now)&&decide (a.now≤4611686018427387904)
theorem Qrx (c:Cf) (l:List Act) (hc:∀a∈l,Act.Ok a) (now:Nat):Q8 prog 3 [.agg c.cells,Ks l,u64 now] (Ql (QN true)):=by
 cases hf:zW l with
 | false=>
  have hF:=OV l
  rw[hf]at hF
  refine Zb 0 Qe 200 func3 rfl ntmps3 results3 rfl fun base w hb=>?_
  simp only[go_sem,simprocAttr]
  refine QE hb kF rfl ?_ hF (Ql.flat rfl) rfl fun d h hR=>?_
  ·simp only[go_sem,simprocAttr]
  obtain⟨rfl,rfl⟩:=hR
  refine Qc hb ?_
  simp only[go_sem,simprocAttr]
  refine QE hb qE rfl ?_ q6 (Ql.flat rfl) rfl fun d h hR=>?_
  ·simp only[go_sem,simprocAttr]
  obtain⟨rfl,rfl⟩:=hR
  refine Qc hb ?_
  simp only[go_sem,simprocAttr]
 | true=>
 have hF:=OV l
 rw[hf]at hF
 cases hm:CN c with
 | false=>
  have hM:=OU c
  rw[hm]at hM
  refine Zb 0 Qe 200 func3 rfl ntmps3 results3 rfl fun base w hb=>?_
  simp only[go_sem,simprocAttr]
  refine QE hb kF rfl ?_ hF (Ql.flat rfl) rfl fun d h hR=>?_
  ·simp only[go_sem,simprocAttr]
  obtain⟨rfl,rfl⟩:=hR
  refine Qc hb ?_
  simp only[go_sem,simprocAttr]
  refine QE hb BL rfl ?_ hM (Ql.flat rfl) rfl fun d h hR=>?_
  ·simp only[go_sem,simprocAttr]
  obtain⟨rfl,rfl⟩:=hR
  refine Qc hb ?_
  simp only[go_sem,simprocAttr]
  refine QE hb qE rfl ?_ q6 (Ql.flat rfl) rfl fun d h hR=>?_
  ·simp only[go_sem,simprocAttr]
  obtain⟨rfl,rfl⟩:=hR
  refine Qc hb ?_
  simp only[go_sem,simprocAttr]
 | true=>
 have hM:=OU c
 rw[hm]at hM
 by_cases hn:4611686018427387904<now
 ·have dn:decide ((4611686018427387904:Int)<(now:Int))=true:=decide_eq_true (by omega)
  refine Zb 0 Qe 200 func3 rfl ntmps3 results3 rfl fun base w hb=>?_
  simp only[go_sem,simprocAttr]
  refine QE hb kF rfl ?_ hF (Ql.flat rfl) rfl fun d h hR=>?_
  ·simp only[go_sem,simprocAttr]
  obtain⟨rfl,rfl⟩:=hR
  refine Qc hb ?_
  simp only[go_sem,simprocAttr]
  refine QE hb BL rfl ?_ hM (Ql.flat rfl) rfl fun d h hR=>?_
  ·simp only[go_sem,simprocAttr,dn]
  obtain⟨rfl,rfl⟩:=hR
  refine Qc hb ?_
  simp only[go_sem,simprocAttr,dn]
  refine QE hb qE rfl ?_ q6 (Ql.flat rfl) rfl fun d h hR=>?_
  ·simp only[go_sem,simprocAttr]
  obtain⟨rfl,rfl⟩:=hR
  refine Qc hb ?_
  simp only[go_sem,simprocAttr]
 ·have dn:decide ((4611686018427387904:Int)<(now:Int))=false:=decide_eq_false (by omega)
  refine Zb 0 Qe 200 func3 rfl ntmps3 results3 rfl fun base w hb=>?_
  simp only[go_sem,simprocAttr]
  refine QE hb kF rfl ?_ hF (Ql.flat rfl) rfl fun d h hR=>?_
  ·simp only[go_sem,simprocAttr]
  obtain⟨rfl,rfl⟩:=hR
  refine Qc hb ?_
  simp only[go_sem,simprocAttr]
  refine QE hb BL rfl ?_ hM (Ql.flat rfl) rfl fun d h hR=>?_
  ·simp only[go_sem,simprocAttr,dn]
  obtain⟨rfl,rfl⟩:=hR
  refine Qc hb ?_
  simp only[go_sem,simprocAttr,dn]
  refine Zv (fun k s=>(l.take k).any (O3 now)=false∧s=⟨[(1,Ks l),(2,u64 now),(3,.ptr 0 0 0 0),(27,Ks l),(28,Qb l.length),(29,Qb k)],[jP c]⟩) l.length (s0:=⟨[(1,Ks l),(2,u64 now),(3,.ptr 0 0 0 0),(27,Ks l),(28,Qb l.length),(29,Qb 0)],[jP c]⟩) (Qk.frame (by simp only[go_sem,simprocAttr])) ⟨by simp,rfl⟩ ?_
  rintro k s hk ⟨Z9,rfl⟩
  by_cases Qn:k<l.length
  ·have dk:=decide_eq_true Qn
   have e1:=getD_take l default k Qn
   obtain⟨x,hx⟩:∃x,x=l.getD k default:=⟨_,rfl⟩
   rw[← hx]at e1
   have Q3:=JX (show k<4611686018427387904 by have:=O1 hf;omega)
   cases d1:decide ((now:Int)<x.now) with
   | false=>
    refine Qc hb ?_
    simp only[go_sem,simprocAttr,Qa,dk,Qn,← hx,d1]
    refine⟨_,Qk.to 1 (by (simp only[go_sem,simprocAttr,Q3])<;>simp),?_,rfl⟩
    rw[e1,List.any_append,Z9]
    simp [O3,d1]
   | true=>
    cases d2:decide (x.now≤(4611686018427387904:Int)) with
    | false=>
     refine Qc hb ?_
     simp only[go_sem,simprocAttr,Qa,dk,Qn,← hx,d1,d2]
     refine⟨_,Qk.to 1 (by (simp only[go_sem,simprocAttr,Q3])<;>simp),?_,rfl⟩
     rw[e1,List.any_append,Z9]
     simp [O3,d1,d2]
    | true=>
     refine Qc hb ?_
     simp only[go_sem,simprocAttr,Qa,dk,Qn,← hx,d1,d2]
     refine QE hb qE rfl ?_ q6 (Ql.flat rfl) rfl fun d h hR=>?_
     ·simp only[go_sem,simprocAttr]
     obtain⟨rfl,rfl⟩:=hR
     refine Qc hb ?_
     simp only[go_sem,simprocAttr]
  ·have dk:=decide_eq_false Qn
   have ZE:k=l.length:=by omega
   rw[ZE,List.take_length]at Z9
   have K:=aN.1 hm
   refine Qc hb ?_
   simp only[go_sem,simprocAttr,Qa,dk]
   refine Qc hb ?_
   simp only[go_sem,simprocAttr,Qa]
   refine QT hb Rq rfl ?_ (aS (fun _=>.no) [jP c] K l hf hc) rfl fun d h1 hR=>?_
   ·simp only[go_sem,simprocAttr,Qa]
   obtain⟨JL,p,rfl,C1,D1⟩:=hR
   obtain⟨M,Xi⟩:∃M,M=runN (M0 c) l:=⟨_,rfl⟩
   rw[← Xi]at C1
   have Qam:M.Zd≤now:=by
    rw[Xi]
    refine Qbm now l (M0 c) (Nat.zero_le _) fun a ha h2=>?_
    have h3:=(List.any_eq_false.1 Z9) a ha
    have h4:=(hc a ha).now
    unfold O3 at h3
    simp only[Bool.and_eq_true,decide_eq_true_eq,not_and]at h3
    omega
   have hS:=Qrw C1.I C1.V (show now≤4611686018427387904 by omega) Qam
   refine Qc hb ?_
   simp only[go_sem,simprocAttr,Qa]
   refine QK hb MH rfl ?_ (OZ C1) rfl fun d hR=>?_
   ·simp only[go_sem,simprocAttr,Qa]
   subst hR
   refine Qc hb ?_
   simp only[go_sem,simprocAttr,Qa]
   obtain⟨v,hv⟩:∃v,v=qn M:=⟨_,rfl⟩
   rw[← hv]at hS ⊢
   refine QT hb DQ rfl ?_ (Ft C1 now) rfl fun d h2 hR=>?_
   ·simp only[go_sem,simprocAttr,Qa]
   rw[hS]at hR
   by_cases a1:v≤now
   ·have b1:=decide_eq_true a1
    have a2:v<9223372036854775808:=by omega
    have b2:decide ((v:Int)<9223372036854775808)=true:=decide_eq_true (by omega)
    rw[decide_eq_true (And.intro a1 a2)]at hR
    obtain⟨rfl,Kr,C2,D2⟩:=hR
    refine Qc hb ?_
    simp only[go_sem,simprocAttr,Qa,b1,b2]
    refine QE hb qE rfl ?_ q6 (Ql.flat rfl) rfl fun d h hR=>?_
    ·simp only[go_sem,simprocAttr]
    obtain⟨rfl,rfl⟩:=hR
    refine Qc hb ?_
    simp only[go_sem,simprocAttr]
   ·have b1:=decide_eq_false a1
    rw[decide_eq_false (fun h:v≤now∧v<9223372036854775808=>a1 h.1)]at hR
    obtain⟨rfl,Kr,C2,D2⟩:=hR
    refine Qc hb ?_
    simp only[go_sem,simprocAttr,Qa,b1]
    refine QE hb qE rfl ?_ q6 (Ql.flat rfl) rfl fun d h hR=>?_
    ·simp only[go_sem,simprocAttr]
    obtain⟨rfl,rfl⟩:=hR
    refine Qc hb ?_
    simp only[go_sem,simprocAttr]
theorem Qry (c:Cf) (l:List Act) (hc:∀a∈l,Act.Ok a) (n:Int) (hn:(Lit.int .u64 n).wf=true):Q8 prog 3 [.agg c.cells,Ks l,.raw (.int .u64 n)] (Ql (QN true)):=by
 obtain⟨now,rfl⟩:∃m:Nat,n=m:=⟨n.toNat,by have:=wf_u64 hn;omega⟩
 exact Qrx c l hc now
end Go.Fg.X
namespace Go.Fg.X
open Go.Proofs Go.Fg Go.Proofs.YtklmjinbhnoppaaGreat
open Go.ChangeShapes Go.WideShapes Go.ChangeAt Go.RowKit
open Go.Proofs.Tryz
theorem Qrz:ownKnob prog.godebug=none:=by kernel_rfl
theorem aV:laidOutB prog=true:=by kernel_rfl
theorem QrA (os:Os) (started:os.Started) (H:Type) (enc:TypeId × Value→H) :
  ReturnsInHanded {} checked os 3 .any (Rows.coreDueSpec.pre6 enc prog f3 Rows.coreDueRow.domain false) (Rows.coreDueSpec.post enc prog f3 false true false false):=by
 refine returnsInHanded_of_change (C:=checked) Qrz started (by kernel_rfl) func3
  (ChangeSpec.witness6 (enc:=enc) (C:=checked) false ⟨#[],#[.agg #[.int .i64 0,.int .i64 0],.slice none 0 0,.int .u64 0],[]⟩ 12 (by kernel_rfl) (by kernel_rfl) (by kernel_rfl) (by kernel_rfl)) ?_
 intro W base args ds gs before A1 hW Qbn _
 have q7:∀(j:Nat) t v,f3.params[j]? = some t→args[j]? = some v→Value.okWide prog W .any base t v:=A1
 have IE:=hW
 obtain⟨p,q,A3,hV,rfl,Eo,Zy⟩:=hW
 have hA:DataW.TrodAll enc prog W 0 (fun _=>true) true f3.params.toList args.toList ds p:=A3
 rw[params3]at hA q7
 obtain⟨v0,vs0,d0,ds0,p0,q0,DN,rfl,rfl,h0,r0⟩:=trodAll_cons hA
 obtain⟨v1,vs1,d1,ds1,p1,q1,rfl,rfl,rfl,h1,r1⟩:=trodAll_cons r0
 obtain⟨v2,vs2,d2,ds2,p2,q2,rfl,rfl,rfl,h2,r2⟩:=trodAll_cons r1
 obtain⟨rfl,rfl,rfl⟩:=trodAll_nil r2
 obtain rfl:args=#[v0,v1,v2]:=by cases args;simp_all
 obtain⟨rfl,rfl⟩:=trodVars_none hV
 obtain⟨IF,rfl,_⟩:=okWide_struct underlying23 (q7 0 23 v0 rfl rfl)
 obtain⟨a1,IG,II,rfl⟩:=okWide_slice underlying24 (q7 1 24 v1 rfl rfl)
 obtain⟨n2,rfl⟩:=okWide_int underlying25 (q7 2 25 v2 rfl rfl)
 have t0:=h0
 have IJ:∀x∈p0,x.block<W.heap.size:=by obtain⟨m,hm⟩:=t0;exact DataW.trod_lt m _ _ _ hm
 have t1:=h1
 have IK:∀x∈p1,x.block<W.heap.size:=by obtain⟨m,hm⟩:=t1;exact DataW.trod_lt m _ _ _ hm
 have t2:=h2
 have IL:∀x∈p2,x.block<W.heap.size:=by obtain⟨m,hm⟩:=t2;exact DataW.trod_lt m _ _ _ hm
 obtain⟨x0,k0,c0⟩:=Rd.many RX h0
 obtain⟨x1,k1,c1⟩:=Rd.one (Rd.slice 11 underlying24 (by kernel_rfl) (by decide) MX) h1 (RV _ _ _)
 obtain⟨x2,k2,c2⟩:=Rd.one (Rd.int .u64 underlying25) h2 (oX _ _)
 clear A3 A1
 have walk:Calls prog 3 #[.agg IF,.slice a1 IG II,.int .u64 n2] W fun e W'=>e=.returned (.bool true)∧Below W.heap.size W W':=RW (Qry x0 x1 k1.2 x2 k2) W [_,_,_] rfl (fun i hi=>match i,hi with
  | 0,_=>c0
  | 1,_=>c1
  | 2,_=>c2)
 refine walk.mono fun e W' ⟨he,Ko⟩=>?_
 subst he
 exact⟨_,rfl,_,_,_,[],_,[],IE,trodAll_mk1 (shut_bool underlying4 _),(trodAll_cons_mk (Below.trod aV (by kernel_rfl) (of_decide_eq_true (by kernel_rfl)) t0 Ko IJ) (trodAll_cons_mk (Below.trod aV (by kernel_rfl) (of_decide_eq_true (by kernel_rfl)) t1 Ko IK) (trodAll_cons_mk (Below.trod aV (by kernel_rfl) (of_decide_eq_true (by kernel_rfl)) t2 Ko IL) trodAll_mk0))),rfl,Ko.frame _,fun h=>by cases h⟩
theorem QrB:joinedFacts prog 3 f3 Rows.coreDueSpec Rows.coreDueRow=true:=by kernel_rfl
theorem QrC:prog.funcNamed Rows.coreDueRow.func=some 3:=by kernel_rfl
theorem provedCoreDue:Rows.CoreDueSaid:=
 OpenClaim.holds_of_wide 3 f3 rfl rfl rfl rfl rfl rfl rfl ⟨rfl,rfl,rfl,rfl,rfl⟩ rfl rfl rfl rfl rfl QrC func3 QrB
  (of_decide_eq_true (by kernel_rfl)) (by unfold Func.isWrapper;first|(rw[if_pos (by decide +kernel)];kernel_rfl)|(rw[if_neg (by decide +kernel)];exact⟨rfl,rfl⟩))
  (fun os started H enc _=>QrA os started H enc)
end Go.Fg.X
namespace Go.Proofs.YtklmjinbhnoppaaGreat
theorem coreDue_done : Rows.CoreDueSaid := Go.Fg.X.provedCoreDue
end Go.Proofs.YtklmjinbhnoppaaGreat
