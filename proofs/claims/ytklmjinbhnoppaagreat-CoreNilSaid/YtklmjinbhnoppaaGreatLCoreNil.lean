/- The statement CoreNil is proved. No conditions. -/
import Derived.Test.YtklmjinbhnoppaaGreatGN1
import Derived.Test.YtklmjinbhnoppaaGreatRows
set_option maxRecDepth 100000
set_option maxHeartbeats 16000000
set_option linter.unusedVariables false
set_option linter.unusedSimpArgs false
set_option linter.unusedSectionVars false
namespace Go.Fg.X
open Go.Proofs Go.Fg Go.Proofs.YtklmjinbhnoppaaGreat
open Go.ChangeShapes Go.WideShapes Go.ChangeAt Go.RowKit
theorem Qq8:ownKnob Tryz.prog.godebug=none:=by kernel_rfl
theorem Qq9:laidOutB Tryz.prog=true:=by kernel_rfl
theorem Qra (os:Os) (started:os.Started) (H:Type) (enc:TypeId × Value→H) :
  ReturnsInHanded {} Tryz.checked os 7 .any (Rows.coreNilSpec.pre6 enc Tryz.prog Tryz.f7 Rows.coreNilRow.domain false) (Rows.coreNilSpec.post enc Tryz.prog Tryz.f7 false true false false):=by
 refine returnsInHanded_of_change (C:=Tryz.checked) Qq8 started (by kernel_rfl) Tryz.func7
  (ChangeSpec.witness6 (enc:=enc) (C:=Tryz.checked) false ⟨#[],#[.agg #[.int .i64 0,.int .u64 0,.int .i64 0,.int .u64 0,.int .i64 0,.int .u16 0,.int .u16 0,.int .u16 0,.int .u16 0,.bool false,.slice none 0 0]],[]⟩ 12 (by kernel_rfl) (by kernel_rfl) (by kernel_rfl) (by kernel_rfl)) ?_
 intro W base args ds gs before uG hW QuM _
 have uH:∀ (j:Nat) t v,Tryz.f7.params[j]? = some t→args[j]? = some v→Value.okWide Tryz.prog W .any base t v:=uG
 have hW':=hW
 obtain ⟨p,q,uJ,hV,rfl,LP,ZI⟩:=hW
 have hA:DataW.TrodAll enc Tryz.prog W 0 (fun _=>true) true Tryz.f7.params.toList args.toList ds p:=uJ
 rw[Tryz.params7] at hA uH
 obtain ⟨v0,vs0,d0,ds0,p0,q0,IW,rfl,rfl,h0,r0⟩:=trodAll_cons hA
 obtain ⟨rfl,rfl,rfl⟩:=trodAll_nil r0
 obtain rfl:args=#[v0]:=by cases args;simp_all
 obtain ⟨rfl,rfl⟩:=trodVars_none hV
 obtain ⟨cs0,rfl,_⟩:=okWide_struct Tryz.underlying36 (uH 0 36 v0 rfl rfl)
 have t0:=h0
 have lt0:∀ x∈p0,x.block<W.heap.size:=by obtain ⟨m,hm⟩:=t0;exact DataW.trod_lt m _ _ _ hm
 obtain ⟨x0,k0,c0⟩:=Rd.many Qjb h0
 clear uJ uG
 have walk:Calls Tryz.prog 7 #[.agg cs0] W fun e W'=>e=.returned (.bool true)∧Below W.heap.size W W':=Qi6 (Qq7 x0 k0) W [_] rfl (fun i hi=>match i,hi with
  | 0,_=>c0)
 refine walk.mono fun e W' ⟨he,W3⟩=>?_
 subst he
 exact ⟨_,rfl,_,_,_,[],_,[],hW',trodAll_mk1 (shut_bool Tryz.underlying4 _),(trodAll_cons_mk (Below.trod Qq9 (by kernel_rfl) (of_decide_eq_true (by kernel_rfl)) t0 W3 lt0) trodAll_mk0),rfl,W3.frame _,fun h=>by cases h⟩
theorem Qre:joinedFacts Tryz.prog 7 Tryz.f7 Rows.coreNilSpec Rows.coreNilRow=true:=by kernel_rfl
theorem Qrf:Tryz.prog.funcNamed Rows.coreNilRow.func=some 7:=by kernel_rfl
theorem provedCoreNil:Rows.CoreNilSaid:=
 OpenClaim.holds_of_wide 7 Tryz.f7 rfl rfl rfl rfl rfl rfl rfl ⟨rfl,rfl,rfl,rfl,rfl⟩ rfl rfl rfl rfl rfl Qrf Tryz.func7 Qre
  (of_decide_eq_true (by kernel_rfl)) (by unfold Func.isWrapper;first | (rw[if_pos (by decide +kernel)];kernel_rfl) | (rw[if_neg (by decide +kernel)];exact ⟨rfl,rfl⟩))
  (fun os started H enc _=>Qra os started H enc)
end Go.Fg.X
namespace Go.Proofs.YtklmjinbhnoppaaGreat
theorem QuP:Rows.CoreNilSaid:=Go.Fg.X.provedCoreNil
end Go.Proofs.YtklmjinbhnoppaaGreat
namespace Go.Proofs.YtklmjinbhnoppaaGreat
theorem coreNil_done : Rows.CoreNilSaid := Go.Fg.X.provedCoreNil
end Go.Proofs.YtklmjinbhnoppaaGreat
