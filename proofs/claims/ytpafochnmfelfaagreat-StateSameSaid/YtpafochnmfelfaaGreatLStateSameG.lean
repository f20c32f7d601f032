/- The statement StateSame is proved. No conditions. -/
import Derived.Test.YtpafochnmfelfaaGreatSWhG
import Derived.Test.YtpafochnmfelfaaGreatCA5G
import Derived.Test.YtpafochnmfelfaaGreatRows
set_option maxRecDepth 100000
set_option maxHeartbeats 16000000
set_option linter.unusedVariables false
set_option linter.unusedSimpArgs false
set_option linter.unusedSectionVars false
set_option linter.defProp false
namespace Go.Fg.X
open Go.Proofs Go.Fg
open Go.Proofs.Tryz
section
variable (n:Nd)(a:Bool)(f:Nat)
@[go_sem] theorem QFz:List.take 14 (Wf n a f)=n.c.cells:=rfl
@[go_sem] theorem QFA:(List.drop 14 (Wf n a f)).getD 0 D.undef=QT a:=rfl
@[go_sem] theorem QFB:(List.drop 15 (Wf n a f)).getD 0 D.undef=u64 n.Ja:=rfl
@[go_sem] theorem QFC:List.take 22 (List.drop 16 (Wf n a f))=n.du.cells:=rfl
@[go_sem] theorem QFD:List.take 11 (List.drop 38 (Wf n a f))=n.sh.cells:=rfl
@[go_sem] theorem QFE:List.take 11 (List.drop 49 (Wf n a f))=n.cp.cells:=rfl
@[go_sem] theorem QFF:(List.drop 60 (Wf n a f)).getD 0 D.undef=u64 f:=rfl
end
def QjB{F}(a:∀v,F (.raw v)=some (True,.raw v)):∀l:List Value,X6 F (l.map D.raw)=some (True,l.map D.raw)
 | []=>rfl
 | v::l=>by
  rw[JN];unfold X6;rw[a,QjB a l];simp
@[go_sem] theorem QFG{F}(n)(a)(f)(b:∀v,F (.raw v)=some (True,.raw v)):X6 F (Wf n a f)=some (True,Wf n a f):=by
 rw[Qh1];exact QjB b _
@[go_sem] theorem QFH(k)(n)(a)(f):xv k (Wf n a f)=Wf n a f:=rfl
def QjY(b:Bool)(q:Qu):Qu:=if b=true then q else { q with cd:=0,bd:=0 }
def QCY(q:Qu)(b):Q6 prog 52 [.agg q.Nk,QT b] (Zm (.agg (QjY b q).Nk)):=by
 cases b
 .refine Zs 0 func52 ntmps52 results52 λa w c=>?_;simp only[go_sem];rfl
 .refine Zs 0 func52 ntmps52 results52 λa w c=>?_;simp only[go_sem];rfl
def Vg.cut(b:Bool)(i:Vg):Vg:=⟨{ i.n with q:=QjY b i.n.q },i.a,i.f⟩
def Qj1(i:Vg)(b:Bool):Q6 prog 32 [.agg (Wf i.n i.a i.f),QT b] (Zm (.agg (Wf (i.cut b).n (i.cut b).a (i.cut b).f))):=by
 have h:=QCY i.n.q b;refine Zs 0 func32 ntmps32 results32 λc w a=>?_;simp only[go_sem];apply Qw a [0,1,2,3,4,5,6,7,8,9,10,11,12,13,14,15,16,1017,18,1019];simp only[go_sem];apply Vc a Qsz h;apply VG a;rfl
def VJ.cut(b:Bool)(v:VJ):VJ:={ v with C:=v.C.map (Vg.cut b) }
def VJ.Qj2(v:VJ):v.cut true=v:=by
 unfold VJ.cut;have:(v.C.map (Vg.cut true))=v.C:=(Tq (g:=id) (λi _=>rfl)).trans (List.map_id _);rw[this]
theorem VJ.Qj3(v:VJ):v.cut false=v.calm:=rfl
def Qj8(v u:VJ)(b)(K:v.Small)(T:u.Small):Q6 prog 13 [.agg v.cells,.agg u.cells,QT b] (Zm (QT (qy (v.cut b) (u.cut b)))):=by
 have vC:=K.C;have vQ:=K.Q;have z:=QCm v.R u.R K.R T.R;cases d:(v.cf.t==u.cf.t&&v.cf.JU==u.cf.JU);case false=>
  have e:qy (v.cut b) (u.cut b)=false:=by unfold qy EU;rw[show ((v.cut b).cf.t==(u.cut b).cf.t&&(v.cut b).cf.JU==(u.cut b).cf.JU)=false from d];rfl
  rw[e];refine Zs 0 func13 ntmps13 results13 λc w a=>?_;simp only[go_sem];simp only[go_sem,d,Go.undef]
 by_cases W:v.Qi=u.Qi;case neg=>
  have e:qy (v.cut b) (u.cut b)=false:=by
   rw[Ym];intro o;have:=QyK.1 o;exact W this.Qi
  have f:=bn (show ((v.Qi:Nat):Int)≠((u.Qi:Nat):Int) from ω);rw[e];refine Zs 0 func13 ntmps13 results13 λc w a=>?_;simp only[go_sem];simp only[go_sem,d,f,Go.undef]
 have f:=bk (show ((v.Qi:Nat):Int)=((u.Qi:Nat):Int) from ω);by_cases N:v.Jt=u.Jt;case neg=>
  have e:qy (v.cut b) (u.cut b)=false:=by
   rw[Ym];intro o;have:=QyK.1 o;exact N this.Jt
  have h:=bn (show ((v.Jt:Nat):Int)≠((u.Jt:Nat):Int) from ω);rw[e];refine Zs 0 func13 ntmps13 results13 λc w a=>?_;simp only[go_sem];simp only[go_sem,d,f,h,Go.undef]
 have h:=bk (show ((v.Jt:Nat):Int)=((u.Jt:Nat):Int) from ω);by_cases V:v.acc=u.acc;case neg=>
  have e:qy (v.cut b) (u.cut b)=false:=by
   rw[Ym];intro o;have:=QyK.1 o;exact V this.acc
  have l:=bn (show ((v.acc:Nat):Int)≠((u.acc:Nat):Int) from ω);rw[e];refine Zs 0 func13 ntmps13 results13 λc w a=>?_;simp only[go_sem];simp only[go_sem,d,f,h,l,Go.undef]
 have l:=bk (show ((v.acc:Nat):Int)=((u.acc:Nat):Int) from ω);cases B:Xb Ap v.R u.R;case false=>
  have e:qy (v.cut b) (u.cut b)=false:=by
   rw[Ym];intro o;have h9:v.R=u.R:=(QyK.1 o).R;have O:Xb Ap v.R u.R=true:=(sM (λx y=>QyJ)).2 h9;rw[O]at B;cases B
  rw[B]at z;rw[e];refine Zs 0 func13 ntmps13 results13 λc w a=>?_;simp only[go_sem];simp only[go_sem,d,f,h,l,Go.undef];refine Jk a QrM ?_ z ?_
  .simp only[go_sem,d,f,h,l,Go.undef]
  apply Qg a;simp only[go_sem,d,f,h,l,Go.undef]
 rw[B]at z;have hR:=(sM (λx y=>QyJ)).1 B;by_cases U:v.C.length=u.C.length;case neg=>
  have e:qy (v.cut b) (u.cut b)=false:=by
   rw[Ym];intro o;have:=QyK.1 o;exact U (by have:=this.lC;simpa[VJ.cut] using this)
  have r:=bn (show ((v.C.length:Nat):Int)≠((u.C.length:Nat):Int) from ω);rw[e];refine Zs 0 func13 ntmps13 results13 λc w a=>?_;simp only[go_sem];simp only[go_sem,d,f,h,l,r,Go.undef];refine Jk a QrM ?_ z ?_
  .simp only[go_sem,d,f,h,l,r,Go.undef]
  apply Qg a;simp only[go_sem,d,f,h,l,r,Go.undef]
 have r:=bk (show ((v.C.length:Nat):Int)=((u.C.length:Nat):Int) from ω);by_cases P:v.Q.length=u.Q.length;case neg=>
  have e:qy (v.cut b) (u.cut b)=false:=by
   rw[Ym];intro o;have:=QyK.1 o;exact P (congrArg List.length this.Q)
  have t:=bn (show ((v.Q.length:Nat):Int)≠((u.Q.length:Nat):Int) from ω);rw[e];refine Zs 0 func13 ntmps13 results13 λc w a=>?_;simp only[go_sem];simp only[go_sem,d,f,h,l,r,t,Go.undef];refine Jk a QrM ?_ z ?_
  .simp only[go_sem,d,f,h,l,r,t,Go.undef]
  apply Qg a;simp only[go_sem,d,f,h,l,r,t,Go.undef]
 have t:=bk (show ((v.Q.length:Nat):Int)=((u.Q.length:Nat):Int) from ω);refine Zs 0 func13 ntmps13 results13 λc w a=>?_;simp only[go_sem];simp only[go_sem,d,f,h,l,r,t,Go.undef];refine Jk a QrM ?_ z ?_
 .simp only[go_sem,d,f,h,l,r,t,Go.undef]
 apply Qg a;simp only[go_sem,d,f,h,l,r,t,Go.undef];have S:qy (v.cut b) (u.cut b)=(Xb Vg.CZ (v.cut b).C (u.cut b).C&&Xb (Xb wZ) v.Q u.Q):=by
  have e1:EU (v.cut b) (u.cut b)=true:=by
   unfold EU;rw[show ((v.cut b).cf.t==(u.cut b).cf.t&&(v.cut b).cf.JU==(u.cut b).cf.JU)=true from d,show decide ((v.cut b).Qi=(u.cut b).Qi)=true from Q3 W,show decide ((v.cut b).Jt=(u.cut b).Jt)=true from Q3 N,show decide ((v.cut b).acc=(u.cut b).acc)=true from Q3 V,show decide ((v.cut b).Q.length=(u.cut b).Q.length)=true from Q3 P];rfl
  unfold qy;rw[e1,show Xb Ap (v.cut b).R (u.cut b).R=true from B,Df,Df,Bool.and_comm];rfl
 have J:(v.cut b).C.length=(u.cut b).C.length:=by simpa[VJ.cut] using U
 have H:∀k,k<v.C.length->(v.cut b).C.getD k default=(v.C.getD k default).cut b:=λk s=>by simp[VJ.cut,Q5,s]
 have I:∀k,k<u.C.length->(u.cut b).C.getD k default=(u.C.getD k default).cut b:=λk s=>by simp[VJ.cut,Q5,s]
 rw[S];refine HO (G:=Nat) [2,3,4,64,65] (λk=>∀j,j<k->((v.C.getD j default).cut b).CZ ((u.C.getD j default).cut b)=true) (λk E=>[(6,QT false),(66,Qb k)]) (λk E=>[(⟨.one,0,8,1,λ_=>v.cells⟩:Ob),(⟨.one,0,8,1,λ_=>u.cells⟩:Ob)]) (v.C.length) (0) rfl (QF.to 2 (by (simp only[go_sem])<;>simp)) ?_ ?_
 .intro j n;omega
 .intro k E s F;apply Zd a;have R:=KJ (show k<4611686018427387904 from ω);first|refine jL s (λg=>?_) (λg=>?_)|refine jM s (λg=>?_) (λg=>?_)
  .have m:k<u.C.length:=ω;obtain⟨i,L⟩:∃i,i=v.C.getD k default:=⟨_,rfl⟩;obtain⟨j,n⟩:∃j,j=u.C.getD k default:=⟨_,rfl⟩;have hI:=Qj1 i b;have Z:=Qj1 j b;simp only[go_sem,g,<- L];apply Qw a [0,1,3,4,5,6,7,8,1002,1009,10];simp only[go_sem,g,m,<- L,<- n];refine KK a Qdm ?_ hI ?_
   .simp only[go_sem,m,<- n]
   apply Q7 a;simp only[go_sem,m,<- n];refine KK a Qdm ?_ Z ?_
   .simp only[go_sem,m,<- n]
   apply Q7 a;simp only[go_sem,m,<- n];cases p:(i.cut b).CZ (j.cut b)
   .have Q:Xb Vg.CZ (v.cut b).C (u.cut b).C=false:=fg (i:=k) (by simpa[VJ.cut] using g) (by rw[H k g,I k m,<- L,<- n];exact p);simp only[Vg.CZ]at p;simp only[go_sem,p,Q,EW]
   .have Y:=p;simp only[Vg.CZ]at Y;simp only[go_sem,Y];repeat (refine And.intro δ ?_)
    refine⟨_,QF.to 2 (by (simp only[go_sem,R])<;>simp),xA.mk (0) (?_)⟩;intro q C;rcases vK.1 C with O|rfl
    .exact F q O
    .rw[<- L,<- n];exact p
  .subst g;have Q:Xb Vg.CZ (v.cut b).C (u.cut b).C=true:=Da.2 ⟨J,λq C=>by
    have C:q<v.C.length:=by simpa[VJ.cut] using C
    rw[H q C,I q ω];exact F q C⟩
   rw[Q,Df];simp only[go_sem];apply Zd a;refine HO (G:=Nat) [2,3,4,84,85] (λk=>∀j,j<k->Xb wZ (v.Q.getD j []) (u.Q.getD j [])=true) (λk E=>[(6,QT false),(86,Qb k)]) (λk E=>[(⟨.one,0,8,1,λ_=>v.cells⟩:Ob),(⟨.one,0,8,1,λ_=>u.cells⟩:Ob)]) (v.Q.length) (0) rfl (QF.to 2 (by (simp only[go_sem])<;>simp)) ?_ ?_
   .intro j n;omega
   intro k E s F;apply Zd a;have R:=KJ (show k<4611686018427387904 from ω);first|refine jL s (λg=>?_) (λg=>?_)|refine jM s (λg=>?_) (λg=>?_)
   .have m:k<u.Q.length:=ω;have M:=QCo (v.Q.getD k []) (u.Q.getD k []) (K.at_ g) (T.at_ m);simp only[go_sem,g,m];cases p:Xb wZ (v.Q.getD k []) (u.Q.getD k [])
    .have e:Xb (Xb wZ) v.Q u.Q=false:=fg g p;rw[p]at M;refine Jk a Qsi ?_ M ?_
     .simp only[go_sem,m,e]
     apply Qg a;simp only[go_sem,m,e]
    .rw[p]at M;refine Jk a Qsi ?_ M ?_
     .simp only[go_sem,m]
     apply Qg a;simp only[go_sem,m];repeat (refine And.intro δ ?_)
     refine⟨_,QF.to 2 (by (simp only[go_sem,R])<;>simp),xA.mk (0) (?_)⟩;intro j n;rcases vK.1 n with N|rfl
     .exact F j N
     .exact p
   .subst g;have e:Xb (Xb wZ) v.Q u.Q=true:=Da.2 ⟨P,F⟩;simp only[go_sem,e];exact HT a
def QC0(x y:qI)(J:∀a∈x.ops,ZY.Ok a)(I:∀a∈y.ops,ZY.Ok a):Q6 prog 3 [.agg x.cells,.agg y.cells] (Zm (QT true)):=by
 refine sG (R:=λd M=>d=QT true) _ rfl (λd M h=>.inl (h▸qH _ _)) ?_;have e:=Qys x 100 π;have j:=Qys y 100 π;have k:=QwM x.config;have n:=QwM y.config;have m:=Qzx;refine af J8 200 func3 rfl ntmps3 results3 rfl λE w b=>?_;simp only[go_sem,Qa];cases r:CY x 100 with
 | false=>
  rw[r]at e;refine kQ b [] PL rfl ?_ e rfl λd h c=>?_
  .simp only[go_sem,Qa,Go.undef]
  obtain⟨rfl,rfl⟩:=c;simp only[go_sem,Qa,Go.undef];apply Qg b;simp only[go_sem,Qa,Go.undef];refine kQ b [] Mx rfl ?_ m rfl λd h c=>?_
  .simp only[go_sem,Qa]
  obtain⟨rfl,rfl⟩:=c;simp only[go_sem,Qa];exact HT b
 | true=>
 rw[r]at e;cases t:CY y 100 with
 | false=>
  rw[t]at j;refine kQ b [] PL rfl ?_ e rfl λd h c=>?_
  .simp only[go_sem,Qa,Go.undef]
  obtain⟨rfl,rfl⟩:=c;simp only[go_sem,Qa,Go.undef];apply Qg b;simp only[go_sem,Qa,Go.undef];refine kQ b [] PL rfl ?_ j rfl λd h c=>?_
  .simp only[go_sem,Qa,Go.undef]
  obtain⟨rfl,rfl⟩:=c;simp only[go_sem,Qa,Go.undef];apply Qg b;simp only[go_sem,Qa,Go.undef];refine kQ b [] Mx rfl ?_ m rfl λd h c=>?_
  .simp only[go_sem,Qa]
  obtain⟨rfl,rfl⟩:=c;simp only[go_sem,Qa];exact HT b
 | true=>
 rw[t]at j;cases q:SG x.config with
 | false=>
  rw[q]at k;refine kQ b [] PL rfl ?_ e rfl λd h c=>?_
  .simp only[go_sem,Qa,Go.undef]
  obtain⟨rfl,rfl⟩:=c;simp only[go_sem,Qa,Go.undef];apply Qg b;simp only[go_sem,Qa,Go.undef];refine kQ b [] PL rfl ?_ j rfl λd h c=>?_
  .simp only[go_sem,Qa,Go.undef]
  obtain⟨rfl,rfl⟩:=c;simp only[go_sem,Qa,Go.undef];apply Qg b;simp only[go_sem,Qa,Go.undef];refine kQ b [] aM rfl ?_ k rfl λd h c=>?_
  .simp only[go_sem,Qa,Go.undef]
  obtain⟨rfl,rfl⟩:=c;simp only[go_sem,Qa,Go.undef];apply Qg b;simp only[go_sem,Qa,Go.undef];refine kQ b [] Mx rfl ?_ m rfl λd h c=>?_
  .simp only[go_sem,Qa]
  obtain⟨rfl,rfl⟩:=c;simp only[go_sem,Qa];exact HT b
 | true=>
 rw[q]at k;cases s:SG y.config with
 | false=>
  rw[s]at n;refine kQ b [] PL rfl ?_ e rfl λd h c=>?_
  .simp only[go_sem,Qa,Go.undef]
  obtain⟨rfl,rfl⟩:=c;simp only[go_sem,Qa,Go.undef];apply Qg b;simp only[go_sem,Qa,Go.undef];refine kQ b [] PL rfl ?_ j rfl λd h c=>?_
  .simp only[go_sem,Qa,Go.undef]
  obtain⟨rfl,rfl⟩:=c;simp only[go_sem,Qa,Go.undef];apply Qg b;simp only[go_sem,Qa,Go.undef];refine kQ b [] aM rfl ?_ k rfl λd h c=>?_
  .simp only[go_sem,Qa,Go.undef]
  obtain⟨rfl,rfl⟩:=c;simp only[go_sem,Qa,Go.undef];apply Qg b;simp only[go_sem,Qa,Go.undef];refine kQ b [] aM rfl ?_ n rfl λd h c=>?_
  .simp only[go_sem,Qa,Go.undef]
  obtain⟨rfl,rfl⟩:=c;simp only[go_sem,Qa,Go.undef];apply Qg b;simp only[go_sem,Qa,Go.undef];refine kQ b [] Mx rfl ?_ m rfl λd h c=>?_
  .simp only[go_sem,Qa]
  obtain⟨rfl,rfl⟩:=c;simp only[go_sem,Qa];exact HT b
 | true=>
 rw[s]at n;have K:=QwT.1 q;have V:=QwT.1 s;obtain⟨C,JF⟩:=QzC r J;obtain⟨dG,F⟩:=QzC t I;refine kQ b [] PL rfl ?_ e rfl λd h c=>?_
 .simp only[go_sem,Qa,Go.undef]
 obtain⟨rfl,rfl⟩:=c;simp only[go_sem,Qa,Go.undef];apply Qg b;simp only[go_sem,Qa,Go.undef];refine kQ b [] PL rfl ?_ j rfl λd h c=>?_
 .simp only[go_sem,Qa,Go.undef]
 obtain⟨rfl,rfl⟩:=c;simp only[go_sem,Qa,Go.undef];apply Qg b;simp only[go_sem,Qa,Go.undef];refine kQ b [] aM rfl ?_ k rfl λd h c=>?_
 .simp only[go_sem,Qa,Go.undef]
 obtain⟨rfl,rfl⟩:=c;simp only[go_sem,Qa,Go.undef];apply Qg b;simp only[go_sem,Qa,Go.undef];refine kQ b [] aM rfl ?_ n rfl λd h c=>?_
 .simp only[go_sem,Qa,Go.undef]
 obtain⟨rfl,rfl⟩:=c;simp only[go_sem,Qa,Go.undef];apply Qg b;simp only[go_sem,Qa,Go.undef];have N:=Qh5 (own:=λ_=>.no) (tw:=λ_=>.my) (λ_ _=>rfl) [(⟨.one,0,3,1,λ_=>x.cells⟩:Ob),⟨.one,0,3,1,λ_=>y.cells⟩] x K ω JF;refine A4 b QbO N λd o c=>?_;obtain⟨Je,Vf,p,rfl,P,C1,n1,V1,Y⟩:=c;have v:o[1]? = some (⟨.one,0,3,1,λ_=>y.cells⟩:Ob):=Y.my 1 σ rfl;have u:=Qc v;apply Qg b;simp only[go_sem,Qa,v,u];refine A4 b QbO (Qh5 (own:=λ_=>.no) (tw:=λ_=>.my) (λ_ _=>rfl) o y V ω F) λd O c=>?_;obtain⟨JM,VW,Z,rfl,B,C2,n2,V2,W⟩:=c;have H:∀l,l<o.length->O[l]? = o[l]? := λl L=>W.my l L rfl;have z:=StR.top P H;generalize (VD (S0 x.config) x.ops).1=S at *;generalize (VD (S0 y.config) y.ops).1=U at *;have i:=Lj z;have f:=Lj B;have T:=z.toRo;have Q:=B.toRo;have f1:=fi _ _ i f;have f2:=Qj8 _ _ true i f;have f3:=sV _ _ i f;have f4:=Qj8 _ _ false i f;have f5:=fi _ _ i i;have f6:=sV _ _ f f;rw[VJ.Qj2,VJ.Qj2]at f2;rw[VJ.Qj3,VJ.Qj3]at f4;rw[sN]at f5;rw[show S7 (Ka U) (Ka U)=true from sN _]at f6;apply QC b;apply ZA b HS (Li T);apply QC b;apply ZA b HS (Li (Q.more (wG (g:=_))));apply QC b;rw[show qy (Ka S).calm (Ka U).calm=S7 (Ka S) (Ka U) from rfl]at f4;apply Qw b [0,1,2,3,4,5,6,7,8,10,11,1009,1012,13,14,15,16,17,19,20,1018,1021,22,23,24,25,26,1027,28,29,30,31,1032,33,34,1035,36,37];simp only[go_sem,Qa,Go.undef];refine KK b aN ?_ f1 ?_
 .simp only[go_sem,Qa,Go.undef]
 apply Q7 b;simp only[go_sem,Qa,Go.undef];refine KK b Qdl ?_ f2 ?_
 .simp only[go_sem,Qa,Go.undef,Fc]
 apply Q7 b;simp only[go_sem,Qa,Go.undef,Fc];refine KK b iG ?_ f3 ?_
 .simp only[go_sem,Qa,Go.undef]
 apply Q7 b;simp only[go_sem,Qa,Go.undef];refine KK b Qdl ?_ f4 ?_
 .simp only[go_sem,Qa,Go.undef,Fc]
 apply Q7 b;simp only[go_sem,Qa,Go.undef,Fc];refine KK b aN ?_ f5 ?_
 .simp only[go_sem,Qa,Go.undef]
 apply Q7 b;simp only[go_sem,Qa,Go.undef];refine KK b iG ?_ f6 ?_
 .simp only[go_sem,Qa,Go.undef]
 apply Q7 b;simp only[go_sem,Qa,Go.undef];refine KK b Mx ?_ m ?_
 .simp only[go_sem,Qa,Go.undef]
 apply Q7 b;simp only[go_sem,Qa,Go.undef]
end Go.Fg.X
namespace Go.Fg.X
open Go.Proofs Go.Fg Go.Proofs.YtpafochnmfelfaaGreat
open Go.ChangeShapes Go.RowKit
open Go.Proofs.Tryz
def QC2:laidOutB prog=true:=τ
def QDn:mapsRowed prog=true:=τ
def QDr:prog.stopsHeard=true:=τ
def QDt:prog.mayEnter=true:=τ
def QDu:(Rows.stateSameRow.lifted==prog.liftsFinal)=true:=τ
def QDv:(prog.make==some Rows.stateSameRow.make)=true:=τ
end Go.Fg.X
namespace Go.Fg.X
open Go.Proofs Go.Fg Go.Proofs.YtpafochnmfelfaaGreat
open Go.ChangeShapes Go.WideShapes Go.ChangeAt Go.RowKit
open Go.Proofs.Tryz
def QDx:ownKnob prog.godebug=none:=τ
def Qkd:laidOutB prog=true:=τ
def QDz(E:Os)(b:E.Started)(H:Type)(c:TypeId × Value->H):
  ReturnsInHanded {} checked E 3 .any (Rows.stateSameSpec.pre6 c prog f3 Rows.stateSameRow.domain false) (Rows.stateSameSpec.post c prog f3 false true false false):=by
 refine returnsInHanded_of_change (C:=checked) QDx b τ func3
  (ChangeSpec.witness6 (enc:=c) (C:=checked) false ⟨#[],#[.agg #[.int .i64 0,.int .i64 0,.slice none 0 0],.agg #[.int .i64 0,.int .i64 0,.slice none 0 0]],[]⟩ 12 τ τ τ τ) ?_
 intro W k a ds gs l f F a4 _;have n:∀(j:Nat) t v,f3.params[j]? = some t->a[j]? = some v->Value.okWide prog W .any k t v:=f;have w:=F;obtain⟨p,q,d,Y,rfl,Ga,Z3⟩:=F;have I:DataW.TrodAll c prog W 0 (λ_=>true) true f3.params.toList a.toList ds p:=d;rw[params3]at I n;obtain⟨B,a1,d0,a3,R,q0,ar,rfl,rfl,K,P⟩:=trodAll_cons I;obtain⟨z,a0,d1,a2,Q,q1,rfl,rfl,rfl,J,O⟩:=trodAll_cons P;obtain⟨rfl,rfl,rfl⟩:=trodAll_nil O;obtain rfl:a=#[B,z]:=by cases a;simp_all
 obtain⟨rfl,rfl⟩:=trodVars_none Y;obtain⟨y,rfl,_⟩:=okWide_struct underlying26 (n 0 26 B rfl rfl);obtain⟨Z,rfl,_⟩:=okWide_struct underlying26 (n 1 26 z rfl rfl);have t0:=K;have u:∀x∈R,x.block<W.heap.size:=by obtain⟨m,r⟩:=t0;exact DataW.trod_lt m _ _ _ r
 have t1:=J;have s:∀x∈Q,x.block<W.heap.size:=by obtain⟨m,r⟩:=t1;exact DataW.trod_lt m _ _ _ r
 obtain⟨N,T,c0⟩:=Rd.many QpA K;obtain⟨M,S,c1⟩:=Rd.many QpA J;clear d f;have g:Calls prog 3 #[.agg y,.agg Z] W λe L=>e=.returned (.bool true)/\Below W.heap.size W L:=Qpt (QC0 N M T.2.1.2 S.2.1.2) W [_,_] rfl (λi U=>match i,U with
  | 0,_=>c0
  | 1,_=>c1)
 refine g.mono λe L ⟨V,o⟩=>?_;subst V;exact⟨_,rfl,_,_,_,[],_,[],w,trodAll_mk1 (shut_bool underlying4 _),(trodAll_cons_mk (Below.trod Qkd τ (Yo τ) t0 o u) (trodAll_cons_mk (Below.trod Qkd τ (Yo τ) t1 o s) trodAll_mk0)),rfl,o.frame _,λh=>by cases h⟩
def jn{a b}(d:a=true)(c:b=true):(a&&b)=true:=by rw[d,c];rfl
def QDP:(Rows.stateSameRow.inPlace==prog.inPlace 3)=true:=τ
def QDQ:(Rows.stateSameRow.unfollowed==prog.unfollowed 3)=true:=τ
def QDR:(Rows.stateSameRow.recurses==prog.recurses 3)=true:=τ
def QDU:(Rows.stateSameRow.named==prog.varsNamed 3)=true:=τ
def QD8:(Rows.stateSameRow.maps==(f3.params.toList++Rows.stateSameSpec.plain.varTypes prog).any (prog.mapsRec ·))=true:=τ
def QD9:(Rows.stateSameRow.ifaces==(f3.params.toList++Rows.stateSameSpec.plain.varTypes prog).any (prog.ifacesRec ·))=true:=τ
def QEb:(Rows.stateSameRow.loops==(f3.params.toList++Rows.stateSameSpec.plain.varTypes prog).any (prog.loopsFrom ·))=true:=τ
def QEc:joinedFacts prog 3 f3 Rows.stateSameSpec Rows.stateSameRow=true:=by
 unfold joinedFacts;refine(jn (jn (jn (jn (jn (jn (jn (jn (jn (jn (jn (jn (jn (jn (jn (jn (jn (jn (jn (jn (jn (jn (jn (jn (jn (jn (jn (jn (jn (jn (jn ?_ QC2) QDn) ?_) ?_) ?_) ?_) ?_) ?_) QDP) QDQ) QDR) QDU) QD8) QD9) ?_) QEb) ?_) ?_) ?_) ?_) ?_) ?_) ?_) QDr) QDt) QDu) QDv) ?_) ?_) ?_) ?_);all_goals kernel_rfl
def QEj:prog.funcNamed Rows.stateSameRow.func=some 3:=τ
theorem provedStateSame:Rows.StateSameSaid:=
 OpenClaim.holds_of_wide 3 f3 rfl rfl rfl rfl rfl rfl rfl ⟨rfl,rfl,rfl,rfl,rfl⟩ rfl rfl rfl rfl rfl QEj func3 QEc
  (Yo τ) (by unfold Func.isWrapper;first|(rw[Qf (by decide +kernel)];kernel_rfl)|(rw[Qe (by decide +kernel)];exact⟨rfl,rfl⟩))
  (λc a H b _=>QDz c a H b)
end Go.Fg.X
namespace Go.Proofs.YtpafochnmfelfaaGreat
theorem stateSame_done: Rows.StateSameSaid := Go.Fg.X.provedStateSame
end Go.Proofs.YtpafochnmfelfaaGreat
