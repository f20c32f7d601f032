/- Contracts and laws on the way to the statement. No conditions. -/
import Derived.Test.YtklmjinbhnoppaaGreatGO2
set_option maxRecDepth 100000
set_option maxHeartbeats 16000000
set_option linter.unusedVariables false
set_option linter.unusedSimpArgs false
set_option linter.unusedSectionVars false
namespace Go.Fg.X
open Go.Proofs Go.Fg
open Go.Proofs.Tryz
def A4 (n:Nd) (a b:Nat):Nd:={ n with q:={ n.q with cd:=a,bd:=b } }
structure XD (M M':Qh):Prop where
 T:M'.T=M.T
 A:M'.A=M.A
 KT:M'.KT=M.KT
 Lv:M'.Lv=M.Lv
 acc:M'.acc=M.acc
 N:∀id n,Qg M.N id=some n→∃a b,Qg M'.N id=some (A4 n a b)
theorem XD.of {M M':Qh} (h1:M'.T=M.T) (h2:M'.A=M.A) (h3:M'.KT=M.KT) (h4:M'.Lv=M.Lv) (h5:M'.acc=M.acc) (h6:M'.N=M.N):XD M M':=
 ⟨h1,h2,h3,h4,h5,fun id n hn=>⟨n.q.cd,n.q.bd,by rw[h6,hn];rfl⟩⟩
theorem Qbz (M:Qh) (now:Nat):XD M (Zn M now):=by
 unfold Zn
 split<;>exact XD.of rfl rfl rfl rfl rfl rfl
theorem QrX {M:Qh} {now:Nat} (h:XC M now=false):XD M (takeN M now):=by
 unfold XC at h
 unfold takeN
 cases hp:qp M now with
 | none=>exact Qbz M now
 | some x=>rw[hp]at h;cases h
theorem QrY {M:Qh} {now:Nat} {cls:Int} {x:Pk} (h:qi M now cls x≠0):XD M (VS M now cls x):=by
 unfold qi at h
 unfold VS
 split
 ·rename_i ht
  rw[if_pos ht]at h
  unfold Kj
  have R:=Qbz M now
  by_cases Vp:JO (Zn M now) cls x=30
  ·rw[if_pos Vp]
   refine⟨R.T,R.A,R.KT,R.Lv,R.acc,fun id n hn=>?_⟩
   obtain⟨a,b,h1⟩:=R.N id n hn
   rw[CJ]
   split
   ·rename_i e
    subst e
    have Zy:Qx (Zn M now) id=A4 n a b:=by unfold Qx;rw[h1];rfl
    obtain⟨_,h2⟩:=aD h1 Vp
    rw[h1,Zy]
    refine⟨Vf (a+1),Vf (b+x.len.toNat),?_⟩
    simp only[Option.map_some,Option.some.injEq]
    unfold Kh
    rw[if_pos h2]
    rfl
   ·exact⟨a,b,h1⟩
  ·rw[if_neg Vp,if_neg h]
   exact R
 ·exact XD.of rfl rfl rfl rfl rfl rfl
theorem QrZ {M:Qh} {b:Bool} {l:List ZN} (h:YE M b l≠0):XD M (VE M b l):=by
 unfold VE
 rw[if_neg h]
 exact XD.of rfl rfl rfl rfl rfl rfl
theorem XD.act {M M':Qh} (R:XD M M') (id:Int):ZG M' id=ZG M id:=by unfold ZG;rw[R.T,R.A]
theorem XD.fit {M M':Qh} (R:XD M M') (id:Int) (n:Nd) (a b:Nat):KD M' id (A4 n a b)=KD M id n:=by
 unfold KD
 rw[R.act,R.KT]
 rfl
theorem XD.due {M M':Qh} (R:XD M M'):qn M'=qn M:=by unfold qn;rw[R.Lv,R.KT]
theorem XD.q {M M':Qh} (R:XD M M') {id:Int} {n:Nd} (hn:Qg M.N id=some n):ZV M' id=ZV M id:=by
 obtain⟨a,b,h⟩:=R.N id n hn
 unfold ZV Qx
 rw[h,hn]
 rfl
def WU (n:Nd) (a:Bool) (f:Nat):List D:=n.c.cells++(QN a::u64 n.ZM::(n.du.cells++(n.sh.cells++(n.cp.cells++(u64 f::n.q.Hn)))))
section
variable (n:Nd) (a:Bool) (f:Nat)
@[go_sem] theorem QvK:(WU n a f).length=67:=rfl
@[go_sem] theorem QvL:(WU n a f).all D.JU=true:=rfl
@[go_sem] theorem QvM:(List.drop 15 (WU n a f)).getD 0 D.undef=u64 n.ZM:=rfl
@[go_sem] theorem QvN:(List.drop 2 (WU n a f)).getD 0 D.undef=QN n.c.leaf:=rfl
@[go_sem] theorem QvO:(List.drop 63 (WU n a f)).getD 0 D.undef=u64 n.q.cd:=rfl
@[go_sem] theorem QvP:(List.drop 65 (WU n a f)).getD 0 D.undef=u64 n.q.bo:=rfl
@[go_sem] theorem QvQ:(List.drop 66 (WU n a f)).getD 0 D.undef=u64 n.q.bd:=rfl
@[go_sem] theorem QvR (v:Nat):List.take 63 (WU n a f)++(.raw (.int .u64 ((v:Nat):Int))::List.drop 64 (WU n a f))=WU { n with q:={ n.q with cd:=v } } a f:=rfl
@[go_sem] theorem QvS (v:Nat):List.take 66 (WU n a f)++[.raw (.int .u64 ((v:Nat):Int))]=WU { n with q:={ n.q with bd:=v } } a f:=rfl
end
@[go_sem] def QbE (n:Nd) (a:Bool) (f:Nat):Ob:=⟨.one,0,67,1,fun _=>WU n a f⟩
theorem QbA {own:Nat→Tag} {h:List Ob} {p:Nat} {M:Qh} (C:J7 own h p M) {id:Int} {n:Nd} (hn:Qg M.N id=some n):QP prog 22 h [.ptr p 0 0 0,Qb id] (fun d=>d=.tup [.agg (WU n (ZG M id) (KD M id n)),Qb 0]):=by
 obtain⟨L,c⟩:=C.ex
 exact Qqs c.ro C.I hn (C.V.jT id n hn)
theorem QbB {own:Nat→Tag} {h:List Ob} {p:Nat} {M:Qh} (C:J7 own h p M):QH prog 20 h [.ptr p 0 0 0] (fun d h'=>d=.ptr (h.length+1) 0 0 0∧Kz h' (h.length+1) M.T∧∃g,h'=h++g):=by
 obtain⟨L,c⟩:=C.ex
 refine QH.mono (Qqo c) ?_
 rintro d h' ⟨h1,h2,g,h3,_⟩
 exact⟨h1,h2.toR,g,h3⟩
theorem QbC {h:List Ob} {t:Nat} {T:List Qj} (R:Kz h t T) (I:JD T):QP prog 21 h [.ptr t 0 0 0] (fun d=>d=ints (T.map (·.iD))):=NA R (by have:=I.len;omega)
end Go.Fg.X
