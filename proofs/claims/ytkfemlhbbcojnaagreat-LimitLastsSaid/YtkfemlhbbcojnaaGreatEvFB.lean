/- Contracts and laws on the way to the statement. No conditions. -/
import Derived.Test.YtkfemlhbbcojnaaGreatXK2B
set_option maxRecDepth 100000
set_option maxHeartbeats 16000000
set_option linter.unusedVariables false
set_option linter.unusedSimpArgs false
set_option linter.unusedSectionVars false
set_option linter.defProp false
namespace Go.Fg.X
open Go.Proofs Go.Fg Go.Fg.X.SP
open Go.Proofs.Tryz
def QBu(l:List Int)(id)(hl:l.length<2147483648):QW prog 72 [ints l,Qa id] (QN (QT (l.contains id))):=by
 refine xT 0 func72 ntmps72 results72 λbase w hb=>?_;simp only[go_sem];refine HJ (λm s=>∃k:Nat,k+m=l.length/\(l.take k).contains id=false/\s=⟨[(1,Qa id),(7,ints l),(8,Qa l.length),(9,Qa k)],[]⟩) l.length (s0:=⟨[(1,Qa id),(7,ints l),(8,Qa l.length),(9,Qa 0)],[]⟩) QM ⟨0,σ,σ,rfl⟩ ?_;rintro m s ⟨k,hk,ZP,rfl⟩;apply Qn hb;refine YA (λh=>?_) (λh=>?_)
 .have Qj:k<l.length:=by simpa using h
  have e1:=getD_take l 0 k Qj;simp only[go_sem,Qj];refine YA (λh2=>?_) (λh2=>?_)
  .simp only[go_sem];have:l.contains id=true:=by
    rw[<- BO (k+1) l,e1];simp at h2 ⊢;simp[h2]
   rw[this]
  .simp only[go_sem];refine⟨m - 1,_,ω,Qz.frame (by simp only[go_sem,J9 (show k<4611686018427387904 from ω)]),k+1,ω,?_,rfl⟩;rw[e1];simp at ZP h2 ⊢;exact⟨ZP,λe=>h2 e.symm⟩
 .have Qj:k=l.length:=by simp at h;omega
  simp only[go_sem];apply Qn hb;subst Qj;simp at ZP;simp[ZP]
def QBv(lv)(l:List Ev)(ho:∀e∈l,e.kz)(j)(hj:j<(Z6 lv l l.length).length):0<=((Z6 lv l l.length).getD j default).V8/\((Z6 lv l l.length).getD j default).V8<=18446744073709551615:=by
 obtain⟨f,_,_,h,_⟩:=(ES lv l l.length).a j hj;rw[h];exact wf_u64 (uN ho f).1
def Qj4(a d b)(lm)(l:List Ev)(lv:List Int)(hl:l.length<2147483648)(hv:lv.length<2147483648)(ho:∀e∈l,e.kz)(XF:-9223372036854775808<=lm/\lm<=9223372036854775807):
  QW prog 60 [Bn a d b,Qa lm,V0 l,ints lv] (λr h=>h=[]/\gU (q6 a d b lm lv l) (Z6 lv l l.length) l.length (λi is=>.tup [Qa i,QT is]) r):=by
 have Qj5:=QBv lv l ho;have hLl:=gP lv l l.length;refine xT 0 func60 ntmps60 results60 λbase w hb=>?_;simp only[go_sem];refine cA2 hb Qc6 (SP.Qnp l lv hl hv) (Rl.flat λx=>rfl) λd h hR=>?_;obtain⟨g0,rfl,rfl⟩:=hR;obtain⟨L,hL⟩:∃L,L=Z6 lv l l.length:=⟨_,rfl⟩;rw[<- hL]at Qj5 hLl ⊢;apply Qn hb;refine MW (G:=Nat) [1,2,3,4,19,20] (λk=>∀j',j'<k->∀i',i'<l.length->q6 a d b lm lv l (L.getD j' default) i'=false) (λk γ=>[(10,Qa 0),(11,QT false),(21,Qa k)]) (λk γ=>[⟨.one,0,3,1,λ_=>[u64 a,u64 d,u64 b]⟩,⟨.arr,g0,5,L.length,λi=>(L.getD i default).cells⟩]) (L.length) (0) rfl (Qz.to 2 (by (simp only[go_sem])<;>simp)) ?_ ?_
 .intro j' VS;omega
 intro j γ hj ZP;apply Qn hb;have Zb:=J9 (show j<4611686018427387904 from ω);first|refine jO hj (λQj=>?_) (λQj=>?_)|refine jP hj (λQj=>?_) (λQj=>?_)
 .have XJ:=Qj;obtain⟨s,hs⟩:∃s,s=L.getD j default:=⟨_,rfl⟩;have hf:=Qj5 j XJ;rw[<- hs]at hf;have next:(∀i',i'<l.length->q6 a d b lm lv l s i'=false)->∀j',j'<j+1->∀i',i'<l.length->q6 a d b lm lv l (L.getD j' default) i'=false:=λh j' VS i' Z9=>by
   rcases vM.1 VS with h1|rfl
   .exact ZP j' h1 i' Z9
   .rw[<- hs];exact h i' Z9
  simp only[go_sem,Qj,<- hs];refine MW (G:=Nat) [1,2,3,4,19,20,21,10,11,13,25,26] (λk=>∀i',i'<k->q6 a d b lm lv l s i'=false) (λk γ=>[(14,u64 (pk lv l s.fst k)),(27,Qa k)]) (λk γ=>[⟨.one,0,3,1,λ_=>[u64 a,u64 d,u64 b]⟩,⟨.arr,g0,5,L.length,λi=>(L.getD i default).cells⟩,⟨.one,0,5,1,λ_=>s.cells⟩]) (l.length) (0) rfl (Qz.to 3 (by (simp only[go_sem,pk,IC])<;>simp)) ?_ ?_
  .intro i' Z9;omega
  intro i γ' hi Ub;apply Qn hb;have CN:=J9 (show i<4611686018427387904 from ω);first|refine jO hi (λQj=>?_) (λQj=>?_)|refine jP hi (λQj=>?_) (λQj=>?_)
  .have WO:=Qj;obtain⟨e,he⟩:∃e,e=l.getD i default:=⟨_,rfl⟩;have ZM:e.kz:=by rw[he];exact uN ho i
   have t1:=wf_u64 ZM.1;have t2:=QBt ZM;have e5:pk lv l s.fst (i+1)=if s.fst<(i:Int)/\Xv lv e=true then (pk lv l s.fst i+e.bN) % 18446744073709551616 else pk lv l s.fst i:=by rw[he];rfl
   have e6:q6 a d b lm lv l s i=(decide (s.fst<(i:Int))&&(Xv lv e&&((s.zI || decide ((i:Int)<=s.Aj))&&decide (Am a d b (yh s e) lm.toNat<pk lv l s.fst (i+1))))):=by rw[he];rfl
   have Uc:q6 a d b lm lv l s i=false->∀i',i'<i+1->q6 a d b lm lv l s i'=false:=λh i' Z9=>by
    rcases vM.1 Z9 with h1|rfl
    .exact Ub i' h1
    .exact h
   simp only[go_sem,WO,<- he];by_cases c1:(i:Int)<=s.fst
   .have Ud:¬ s.fst<(i:Int):=ω;rw[Qc (λh=>Ud h.1)]at e5;have e7:q6 a d b lm lv l s i=false:=by rw[e6,QI Ud];rfl
    simp only[go_sem,QU c1];repeat (refine And.intro δ ?_)
    refine⟨_,Qz.to 3 (by (simp only[go_sem,CN,e5])<;>simp),XT.mk (γ') (Uc e7)⟩
   have Ud:s.fst<(i:Int):=ω;cases K9:e.J8;case true=>
    have hr:Xv lv e=false:=by simp[Xv,K9]
    rw[Qc (λh=>by rw[hr]at h;cases h.2)]at e5;have e7:q6 a d b lm lv l s i=false:=by rw[e6,hr];simp
    simp only[go_sem,QI c1];repeat (refine And.intro δ ?_)
    refine⟨_,Qz.to 3 (by (simp only[go_sem,CN,e5])<;>simp),XT.mk (γ') (Uc e7)⟩
   simp only[go_sem,QI c1];apply ZK hb Rx (SP.gQ lv e.cls hv);apply Qn hb;cases hc:lv.contains e.cls
   .have hr:Xv lv e=false:=by simp only[Xv,K9,hc];rfl
    rw[Qc (λh=>by rw[hr]at h;cases h.2)]at e5;have e7:q6 a d b lm lv l s i=false:=by rw[e6,hr];simp
    simp only[go_sem];repeat (refine And.intro δ ?_)
    refine⟨_,Qz.to 3 (by (simp only[go_sem,CN,e5])<;>simp),XT.mk (γ') (Uc e7)⟩
   have hr:Xv lv e=true:=by simp only[Xv,K9,hc];rfl
   rw[Qd ⟨Ud,hr⟩]at e5;by_cases c2:s.zI=false/\s.Aj<(i:Int)
   .have e8:∀i',i'<l.length->q6 a d b lm lv l s i'=false:=λi' Z9=>by
     rcases w9 i' i with h1|h1
     .exact Ub i' h1
     .unfold q6;rw[c2.1,QI (show ¬ (i':Int)<=s.Aj by have:=c2.2;omega)];simp
    simp only[go_sem,c2.1,QU c2.2];apply Qn hb;repeat (refine And.intro δ ?_)
    refine⟨_,Qz.to 2 (by (simp only[go_sem,Zb])<;>simp),XT.mk (γ) (next e8)⟩
   have e9:(s.zI || decide ((i:Int)<=s.Aj))=true:=by
    cases Zv:s.zI
    .simp only[Zv,vO]at c2;simp;omega
    .rfl
   have w1:=Ee (pk lv l s.fst i) e.bN;have w2:IntKind.u64.wrap (max e.at_ s.V8 - s.V8)=((yh s e:Nat):Int):=by rw[IntKind.wrap_u64];unfold yh;omega
   have w3:yh s e<18446744073709551616:=by unfold yh;omega
   obtain⟨p,hp⟩:∃p,p=pk lv l s.fst (i+1):=⟨_,rfl⟩;rw[<- hp]at e5 e6;rw[<- e5]at w1;have e7:q6 a d b lm lv l s i=decide (Am a d b (yh s e) lm.toNat<p):=by
    rw[e6,QU Ud,hr,e9];rfl
   have c2':s.zI=true\/s.zI=false/\decide (s.Aj<(i:Int))=false:=by
    cases h8:s.zI
    .exact .inr ⟨rfl,QI (λh=>c2 ⟨h8,h⟩)⟩
    .exact .inl rfl
   rcases c2' with c2'|⟨c2',c3'⟩
   .simp only[go_sem,c2',t2,w1,w2];apply ZK hb mJ (uL a d b (yh s e) lm w3 XF);apply Qn hb;by_cases h9:Am a d b (yh s e) lm.toNat<p
    .rw[QU h9]at e7;simp only[go_sem,QU h9];apply Qn hb;exact .inl ⟨j,i,XJ,WO,by rw[<- hs];exact e7,ZP,by rw[<- hs];exact Ub,rfl⟩
    .rw[QI h9]at e7;simp only[go_sem,QI h9];repeat (refine And.intro δ ?_)
     refine⟨_,Qz.to 3 (by (simp only[go_sem,CN,<- hp])<;>simp),XT.mk (γ') (Uc e7)⟩
   .simp only[go_sem,c2',c3',t2,w1,w2];apply ZK hb mJ (uL a d b (yh s e) lm w3 XF);apply Qn hb;by_cases h9:Am a d b (yh s e) lm.toNat<p
    .rw[QU h9]at e7;simp only[go_sem,QU h9];apply Qn hb;exact .inl ⟨j,i,XJ,WO,by rw[<- hs];exact e7,ZP,by rw[<- hs];exact Ub,rfl⟩
    .rw[QI h9]at e7;simp only[go_sem,QI h9];repeat (refine And.intro δ ?_)
     refine⟨_,Qz.to 3 (by (simp only[go_sem,CN,<- hp])<;>simp),XT.mk (γ') (Uc e7)⟩
  .simp only[go_sem];subst Qj;apply Qn hb;repeat (refine And.intro δ ?_)
   refine⟨_,Qz.to 2 (by (simp only[go_sem,Zb])<;>simp),XT.mk (γ) (next Ub)⟩
 .simp only[go_sem];subst Qj;apply Qn hb;exact .inr ⟨λj hj i hi=>ZP j hj i hi,rfl⟩
def uO(a d b)(lm)(l:List Ev)(lv:List Int)(hl:l.length<2147483648)(hv:lv.length<2147483648)(ho:∀e∈l,e.kz)(XF:-9223372036854775808<=lm/\lm<=9223372036854775807):
  QW prog 26 [Bn a d b,Qa lm,V0 l,ints lv] (λr h=>h=[]/\gU (q6 a d b lm lv l) (Z6 lv l l.length) l.length (λ_ is=>QT (!is)) r):=by
 refine xT 0 func26 ntmps26 results26 λbase w hb=>?_;simp only[go_sem];refine VC hb [] Qc7 rfl ?_ (Qj4 a d b lm l lv hl hv ho XF) rfl λr h hR=>?_
 .simp only[go_sem]
 obtain⟨rfl,⟨j,i,h1,h2,h3,h4,h5,rfl⟩|⟨h1,rfl⟩⟩:=hR
 .simp only[go_sem];apply Qn hb;exact .inl ⟨j,i,h1,h2,h3,h4,h5,rfl⟩
 .simp only[go_sem];apply Qn hb;exact .inr ⟨h1,rfl⟩
def vF(lv:List Int)(l:List Ev)(fr to:Int):Nat->Nat
 | 0=>0
 | k+1=>if fr<=(k:Int)/\(k:Int)<=to/\Xv lv (l.getD k default)=true/\0<(l.getD k default).len then (vF lv l fr to k+(l.getD k default).bN) % 18446744073709551616 else vF lv l fr to k
def Qj6(lv:List Int)(l:List Ev)(F:Int)(i:Nat):∀k,k<=i+1->vF lv l (F+1) i k=pk lv l F k
 | 0,_=>rfl
 | k+1,h=>by
  have ih:=Qj6 lv l F i k ω;have Qb:=uJ lv l F k;simp only[vF,pk,ih];by_cases h1:F<(k:Int)/\Xv lv (l.getD k default)=true
  .rw[Qd h1];by_cases h2:0<(l.getD k default).len
   .rw[Qd ⟨ω,ω,h1.2,h2⟩]
   .rw[Qc (λh=>h2 h.2.2.2)];have:(l.getD k default).bN=0:=by show (l.getD k default).len.toNat=0;omega
    rw[this];omega
  .rw[Qc h1,Qc (λh=>h1 ⟨ω,h.2.2.1⟩)]
def Qj7(lv:List Int)(l:List Ev)(F:Int)(i:Nat):∀d,vF lv l (F+1) i (i+1+d)=pk lv l F (i+1)
 | 0=>Qj6 lv l F i (i+1) (QB _)
 | d+1=>by
  have ih:=Qj7 lv l F i d;show vF lv l (F+1) i ((i+1+d)+1)=_;simp only[vF,ih];rw[Qc ω]
def QBw(lv)(l:List Ev)(F)(i)(hi:i<l.length):vF lv l (F+1) i l.length=pk lv l F (i+1):=by
 have:=Qj7 lv l F i (l.length - (i+1));rwa [show i+1+(l.length - (i+1))=l.length by omega]at this
def QBx(l:List Ev)(lv:List Int)(fr to)(hl:l.length<2147483648)(hv:lv.length<2147483648)(ho:∀e∈l,e.kz):
  QW prog 28 [V0 l,ints lv,Qa fr,Qa to] (QN (u64 (vF lv l fr to l.length))):=by
 refine xT 0 func28 ntmps28 results28 λbase w hb=>?_;simp only[go_sem];refine MW (G:=Nat) [1,2,3,12,13] (λk=>True) (λk γ=>[(9,u64 (vF lv l fr to k)),(14,Qa k)]) (λk γ=>[]) (l.length) (0) rfl (Qz.to 0 (by (simp only[go_sem,vF,IC])<;>simp)) trivial ?_;intro k γ hk _;apply Qn hb;have Zb:=J9 (show k<4611686018427387904 from ω);first|refine jO hk (λQj=>?_) (λQj=>?_)|refine jP hk (λQj=>?_) (λQj=>?_)
 .obtain⟨e,he⟩:∃e,e=l.getD k default:=⟨_,rfl⟩;have ZM:e.kz:=by rw[he];exact uN ho k
  have t2:=wf_i64 ZM.2;have e5:vF lv l fr to (k+1)=if fr<=(k:Int)/\(k:Int)<=to/\Xv lv e=true/\0<e.len then (vF lv l fr to k+e.bN) % 18446744073709551616 else vF lv l fr to k:=by rw[he];rfl
  by_cases c1:fr<=(k:Int);case neg=>
   rw[Qc (λh=>c1 h.1)]at e5;simp only[go_sem,Qj,<- he,QI c1];repeat (refine And.intro δ ?_)
   refine⟨_,Qz.to 0 (by (simp only[go_sem,Zb,e5])<;>simp),XT.mk (γ) (trivial)⟩
  by_cases c2:(k:Int)<=to;case neg=>
   rw[Qc (λh=>c2 h.2.1)]at e5;simp only[go_sem,Qj,<- he,QU c1,QI c2];repeat (refine And.intro δ ?_)
   refine⟨_,Qz.to 0 (by (simp only[go_sem,Zb,e5])<;>simp),XT.mk (γ) (trivial)⟩
  cases K9:e.J8;case true=>
   have hr:Xv lv e=false:=by simp[Xv,K9]
   rw[Qc (λh=>by rw[hr]at h;cases h.2.2.1)]at e5;simp only[go_sem,Qj,<- he,QU c1,QU c2,K9];repeat (refine And.intro δ ?_)
   refine⟨_,Qz.to 0 (by (simp only[go_sem,Zb,e5])<;>simp),XT.mk (γ) (trivial)⟩
  simp only[go_sem,Qj,<- he,QU c1,QU c2,K9];apply ZK hb QpT (QBu lv e.cls hv);apply Qn hb;cases hc:lv.contains e.cls
  .have hr:Xv lv e=false:=by simp only[Xv,K9,hc];rfl
   rw[Qc (λh=>by rw[hr]at h;cases h.2.2.1)]at e5;simp only[go_sem];repeat (refine And.intro δ ?_)
   refine⟨_,Qz.to 0 (by (simp only[go_sem,Zb,e5])<;>simp),XT.mk (γ) (trivial)⟩
  have hr:Xv lv e=true:=by simp only[Xv,K9,hc];rfl
  by_cases c3:0<e.len
  .rw[Qd ⟨c1,c2,hr,c3⟩]at e5;have w2:IntKind.u64.wrap e.len=((e.bN:Nat):Int):=by rw[IntKind.wrap_u64];show _=((e.len.toNat:Nat):Int);omega
   have w1:=Ee (vF lv l fr to k) e.bN;simp only[go_sem,QU c3,w2,w1];repeat (refine And.intro δ ?_)
   refine⟨_,Qz.to 0 (by (simp only[go_sem,Zb,e5])<;>simp),XT.mk (γ) (trivial)⟩
  .rw[Qc (λh=>c3 h.2.2.2)]at e5;simp only[go_sem,QI c3];repeat (refine And.intro δ ?_)
   refine⟨_,Qz.to 0 (by (simp only[go_sem,Zb,e5])<;>simp),XT.mk (γ) (trivial)⟩
 .simp only[go_sem];subst Qj;exact qQ hb
def hIn:Ev:=⟨0,true,false,0,0,3,0,100,0,0,0,0⟩
def hOut(t:Int):Ev:=⟨0,false,false,t,0,3,0,100,0,0,0,0⟩
def HA:List Ev:=[hIn,hIn,hOut 0,hOut 200]
def HB:List Ev:=[hIn,hIn,hOut 0,hOut 199]
def O1{i}(h:i<4):i=0\/i=1\/i=2\/i=3:=ω
def QBy:∀e∈HA,e.kz:=by
 intro e he;simp only[HA,QD,Pm,or_false]at he;rcases he with rfl|rfl|rfl|rfl<;>exact⟨rfl,rfl⟩
def Qj8:∀e∈HB,e.kz:=by
 intro e he;simp only[HB,QD,Pm,or_false]at he;rcases he with rfl|rfl|rfl|rfl<;>exact⟨rfl,rfl⟩
def QBz:Z6 [3] HA HA.length=[⟨0,200,0,3,false⟩]:=by rfl
def O3:Z6 [3] HB HB.length=[⟨0,199,0,3,false⟩]:=by rfl
def QBA{V}{L:List Sp}{n}{R}{d}(h:∀j,j<L.length->∀i,i<n->V (L.getD j default) i=false)(r:gU V L n R d):d=R 0 false:=by
 rcases r with ⟨j,i,h1,h2,h3,_⟩|⟨_,h⟩
 .rw[h j h1 i h2]at h3;cases h3
 .exact h
def Qj9{V}{L:List Sp}{n}{R}{d}{j i}(h1:j<L.length)(h2:i<n)(h3:V (L.getD j default) i=true)(h4:∀j',j'<j->∀i',i'<n->V (L.getD j' default) i'=false)(h5:∀i',i'<i->V (L.getD j default) i'=false)(r:gU V L n R d):d=R i true:=by
 rcases r with ⟨j',i',k1,k2,k3,k4,k5,rfl⟩|⟨h,_⟩
 .have hj:j'=j:=by
   rcases Nat.lt_trichotomy j' j with h|h|h
   .rw[h4 j' h i' k2]at k3;cases k3
   .exact h
   .rw[k4 j h i h2]at h3;cases h3
  subst hj;have hi:i'=i:=by
   rcases Nat.lt_trichotomy i' i with h|h|h
   .rw[h5 i' h]at k3;cases k3
   .exact h
   .rw[k5 i h]at h3;cases h3
  rw[hi]
 .rw[h j h1 i h2]at h3;cases h3
def QBB:∀j,j<(Z6 [3] HA HA.length).length->∀i,i<HA.length->q6 32768 0 32768 100 [3] HA ((Z6 [3] HA HA.length).getD j default) i=false:=by
 rw[QBz];intro j hj i hi;obtain rfl:j=0:=by simpa using hj
 obtain rfl|rfl|rfl|rfl:=O1 hi<;>rfl
def QBC:QW prog 60 [Bn 32768 0 32768,Qa 100,V0 HB,ints [3]] (QN (.tup [Qa 3,QT true])):=
 (Qj4 32768 0 32768 100 HB [3] π π Qj8 π).mono λr h ⟨h1,h2⟩=>⟨Qj9 (j:=0) (i:=3) (by rw[O3];decide) π (by rw[O3];rfl) (λj' hj=>absurd hj (WZ _)) (λi' Z9=>by
  rw[O3];obtain rfl|rfl|rfl:i'=0\/i'=1\/i'=2:=ω;all_goals rfl) h2,h1⟩
def QBD:QW prog 26 [Bn 32768 0 32768,Qa 100,V0 HB,ints [3]] (QN (QT false)):=
 (uO 32768 0 32768 100 HB [3] π π Qj8 π).mono λr h ⟨h1,h2⟩=>⟨Qj9 (j:=0) (i:=3) (by rw[O3];decide) π (by rw[O3];rfl) (λj' hj=>absurd hj (WZ _)) (λi' Z9=>by
  rw[O3];obtain rfl|rfl|rfl:i'=0\/i'=1\/i'=2:=ω;all_goals rfl) h2,h1⟩
def QBE:QW prog 26 [Bn 32768 0 32768,Qa 100,V0 HA,ints [3]] (QN (QT true)):=
 (uO 32768 0 32768 100 HA [3] π π QBy π).mono λr h ⟨h1,h2⟩=>⟨QBA QBB h2,h1⟩
def Qka:QW prog 19 [] (QN (QT true)):=by
 have c1:((32768:Nat):Int)=32768:=rfl;have one:∀i:Nat,i<1->nw .i64 [3] i=[.raw (.int .i64 3)]:=by
  intro i hi;have h0:i=0:=Nat.lt_one_iff.1 hi;rw[h0];rfl
 refine xT 0 func19 ntmps19 results19 λbase w hb=>?_;simp only[go_sem];refine Rp (s':=⟨[(0,.raw (.bool false)),(1,.ptr 0 0 0 0),(4,V0 HA),(5,V0 HB),(27,Bn 32768 0 32768),(28,V0 HB),(29,ints [3])],[⟨.one,0,3,1,λ_=>[u64 32768,u64 0,u64 32768]⟩]⟩) (Qz.trans (Qz.freeze rfl 3 rfl rfl (λi hi=>?_)) (Qz.trans (Qz.freeze rfl 4 rfl rfl (λi hi=>?_)) (Qz.trans (Qz.freeze rfl 5 rfl rfl (λi hi=>?_)) (Qz.toT 1 ?_)))) ?_
 .obtain rfl|rfl|rfl|rfl:=O1 hi<;>rfl
 .obtain rfl|rfl|rfl|rfl:=O1 hi<;>rfl
 .rfl
 .simp only[go_sem,HA,HB,c1,IC];refine⟨λi hi=>?_,λi hi=>?_,λi hi=>?_,λi hi=>?_⟩
  .obtain rfl|rfl|rfl|rfl:=O1 hi;all_goals (simp only[go_sem,hIn,hOut])<;>simp
  .obtain rfl|rfl|rfl|rfl:=O1 hi;all_goals (simp only[go_sem,hIn,hOut])<;>simp
  .obtain rfl|rfl|rfl|rfl:=O1 hi;all_goals (simp only[go_sem,hIn,hOut])<;>simp
  .obtain rfl:i=0:=ω
   (simp only[go_sem])<;>simp
 refine cT hb Qc7 ?_ QBC ?_
 .simp only[go_sem,c1,IC]
 apply Qg hb;simp only[go_sem,c1,IC];refine KE hb mI rfl ?_ QBE (QN.flat rfl) rfl λd h hR=>?_
 ·(simp only[go_sem,c1,IC])<;>exact λi hi=>(one i hi).symm
 obtain⟨rfl,rfl⟩:=hR;apply Qn hb;refine KE hb mI rfl ?_ QBD (QN.flat rfl) rfl λd h hR=>?_
 ·(simp only[go_sem,c1,IC])<;>exact λi hi=>(one i hi).symm
 obtain⟨rfl,rfl⟩:=hR;exact qQ hb
end Go.Fg.X
namespace Go.Fg.X
open Go.Proofs Go.Fg
open Go.Proofs.Tryz
def Qkb(x:YD)(h:x.ops.length<1000000):QW prog 18 [.agg x.cells] (QN (QT (E6 x.ops))):=by
 refine xT 0 func18 ntmps18 results18 λbase w hb=>?_;simp only[go_sem];refine MW (G:=Nat) [6,7] (λk=>∀j,j<k->0<j->(x.ops.getD j default).kind≠1) (λk γ=>[(8,Qa k)]) (λk γ=>[]) (x.ops.length) (0) rfl (Qz.to 0 (by (simp only[go_sem])<;>simp)) ?_ ?_
 .intro j hj;omega
 intro k γ hk Kj;apply Qn hb;have Zb:=J9 (show k<4611686018427387904 from ω);first|refine jO hk (λQj=>?_) (λQj=>?_)|refine jP hk (λQj=>?_) (λQj=>?_)
 .simp only[go_sem,Qj];by_cases h0:0<k
  .have d0:=QU (show (0:Int)<k from ω);by_cases h1:(x.ops.getD k default).kind=1
   .have e1:=qN h1;have ff:E6 x.ops=false:=by
     rw[Xe];intro hf;exact Qjl.1 hf k Qj h0 h1
    simp only[go_sem,d0,e1,ff]
   .have e1:=Xl h1;simp only[go_sem,d0,e1];repeat (refine And.intro δ ?_)
    refine⟨_,Qz.to 0 (by (simp only[go_sem,Zb])<;>simp),XT.mk (0) (?_)⟩;intro j hj j0;rcases vM.1 hj with h|rfl
    .exact Kj j h j0
    .exact h1
  .have d0:=QI (show ¬(0:Int)<k from ω);simp only[go_sem,d0];repeat (refine And.intro δ ?_)
   refine⟨_,Qz.to 0 (by (simp only[go_sem,Zb])<;>simp),XT.mk (0) (?_)⟩;intro j hj j0;rcases vM.1 hj with h|rfl
   .exact Kj j h j0
   .exact absurd j0 h0
 .simp only[go_sem];apply Qn hb;subst Qj;rw[Qjl.2 Kj]
def Qkc{h}{t}{T}(R:VN h t T)(lv:List Int)(hl:lv.length<1000000):Q6 prog 25 h [.ptr t 0 0 0,ints lv] (λd=>d=QT (vE T lv)):=by
 have hG:=λ(F:List Ob) (hF:F=h.map Ob.ro) (G:List Ob) (id:Int)=>Cw ((R.more (KC hF)).more (zZ (g:=G))) id;clear R;refine xD func25 ntmps25 results25 λbase w pl F hF Q7 hb=>?_;simp only[go_sem,Qe];refine Z3 (λk s=>∃g,s=⟨[(0,.ptr t 0 0 0),(9,ints lv),(10,Qa lv.length),(11,Qa k)],F++g⟩/\∀j,j<k->vE T [lv.getD j 0]=true) lv.length (s0:=⟨[(0,.ptr t 0 0 0),(9,ints lv),(10,Qa lv.length),(11,Qa 0)],F⟩) QM ⟨[],by rw[JI];rfl,λj hj=>absurd hj (WZ j)⟩ ?_;rintro k _ hk ⟨g,rfl,Kj⟩;by_cases Qj:k<lv.length
 .have dk:=QU Qj;have Zb:=J9 (show k<4611686018427387904 from ω);obtain⟨id,Q8⟩:∃id,id=lv.getD k 0:=⟨_,rfl⟩;have hg:=hG F hF g id;have ff:vE T [id]=false->vE T lv=false:=λhf=>by
   rw[Xe];intro ha;have h1:=XK.1 ha id (by rw[Q8];exact qg lv 0 k Qj);have h2:=(Xe.1 hf);exact h2 (XK.2 λy hy=>by rw[q8.1 hy];exact h1)
  have tt:vE T [id]=true->∀j,j<k+1->vE T [lv.getD j 0]=true:=λhp j hj=>by
   rcases vM.1 hj with h|rfl
   .exact Kj j h
   .rw[<- Q8];exact hp
  cases hf:Qx T id with
  | none=>
   have e:vE T [id]=false:=by unfold vE;rw[List.all_cons,hf];rfl
   rw[hf]at hg;rw[ff e];apply Qg hb;simp only[go_sem,Qe,dk,Qj,<- Q8];refine QaX hb qf ?_ hg ?_
   .simp only[go_sem,Qe,Py,xh,Go.undef]
   apply Qg hb;simp only[go_sem,Qe,Py,xh,Go.undef];all_goals exact cD
  | some c=>
   have e:vE T [id]=!decide (1<QR c.rt):=by unfold vE;rw[List.all_cons,hf];simp
   rw[hf]at hg;have hR:=Ch c;apply Qg hb;simp only[go_sem,Qe,dk,Qj,<- Q8];refine QaX hb qf ?_ hg ?_
   .simp only[go_sem,Qe,KR,za,Go.undef]
   apply Qg hb;simp only[go_sem,Qe,KR,za,Go.undef];cases h1:decide (1<QR c.rt) with
   | true=>
    rw[h1]at e hR;rw[ff e];refine cT hb yH ?_ hR ?_
    .simp only[go_sem,Qe,Go.undef]
    apply Qg hb;simp only[go_sem,Qe,Go.undef];all_goals exact cD
   | false=>
    rw[h1]at e hR;refine cT hb yH ?_ hR ?_
    .simp only[go_sem,Qe,Go.undef]
    apply Qg hb;simp only[go_sem,Qe,Go.undef];exact⟨Qj,_,Qz.frame (by simp only[go_sem,Zb]),_,rfl,tt e⟩
 .obtain rfl:k=lv.length:=ω;have dk:=QI Qj;have e:vE T lv=true:=XK.2 λy hy=>by
   obtain⟨i,hi,rfl⟩:=wZ hy;have h1:=XK.1 (Kj i hi) (lv.getD i 0) (q8.2 rfl);rw[Q5,QP hi]at h1;exact h1
  rw[e];apply Qg hb;simp only[go_sem,Qe,dk];apply JH hb;first|exact⟨_,rfl,rfl,rfl⟩|exact⟨_,rfl,rfl⟩|exact⟨_,rfl⟩
def QBF{h h':List Ob}{t}{T}(R:VN h' t T):VN (Yg h [] h') (h.length+t) T:=by
 obtain⟨m,c,es,h1,h2,h3⟩:=R;have key:∀l o,(h'.map Ob.ro)[l]? = some o->((Yg h [] h').map Ob.ro)[h.length+l]? = some (o.idx (λi=>h.length+i)):=λl o e=>by
  have eB:VZ h.length []=λi=>h.length+i:=funext λi=>by simp[VZ]
  have e1:Yg h [] h'=h++h'.map (Ob.idx (λi=>h.length+i)):=by unfold Yg W7;rw[eB]
  rw[Ks]at e;cases e2:h'[l]? with
  | none=>rw[e2]at e;cases e
  | some u=>
   rw[e2]at e;cases e;rw[e1,vK,Kb σ,J1,Pq,Ks,Ks,e2];rfl
 refine⟨h.length+m,c,es,key _ _ h1,?_,h3⟩;rw[key _ _ h2];congr 1;have hv:∀e∈es,e.v.idx (λi=>h.length+i)=e.v:=λe he=>by
  have h4:VJ e∈T.map XO:=h3.perm.subset (Z2.2 ⟨e,he,rfl⟩);obtain⟨k,_,h5⟩:=Z2.1 h4;have h6:e.v=Xm k:=(congrArg Prod.snd h5).symm;rw[h6];rfl
 show Ob.idx _ ⟨_,_,_,_,_⟩=_;unfold Ob.idx QK VT Ob.ro;congr 1;funext i;cases i with
 | zero=>rfl
 | succ i=>
  have em:kN .i64 c es (i+1)=(match es[i]? with|some e=>[.raw (.int .i64 e.k),e.v,.raw (.int .i64 e.b)]|none=>[.undef,.undef,.undef]):=rfl;show jN _ (kN .i64 c es (i+1))=kN .i64 c es (i+1);rw[em];cases e2:es[i]? with
  | none=>simp only[jN,D.idx]
  | some e=>simp only[jN,D.idx,hv e (Hf e2)]
def Qkd{base nt}{w0:Start}{Q}(hb:base<=w0.w.heap.size){k}{dst}{ty:TypeId}{pos}{after}{gd}{r}{s}{x}{args}{Zl:Array TypeId}{f}{nf}{Qs}(hf:Qm prog f)
  (hx:Jq (Qo s.fr x)=some (f,nf,Qs)) {cs:List D} (ZM:Go.Fg.Wh s.h.length []=true/\yE []=true/\FX [] (XS s.h [])/\yD [] (ZT nf Qs (args.toList.map (Qo s.fr)))=true/\KA (jK [] (ZT nf Qs (args.toList.map (Qo s.fr)))) cs/\yz ((XS s.h []).map (Ob.Xk [])) [])
  {E:List Ev} {T:List Qq} {X:Prop} (hF:QW prog f cs (λd hh=>∃t,d=.tup [V0 E,.ptr t 0 0 0,Qa 0]/\VN hh t T/\X)) (ht:Zk nt dst=true)
  (hk:∀t H1,X->VN H1 t T->(∀o,s.h[0]? = some o->H1[0]? = some o)->Qv prog base nt w0 Q (.ops r::k) .normal ⟨Za s.fr dst (.tup [V0 E,.ptr t 0 0 0,Qa 0]),H1⟩) :
  Qv prog base nt w0 Q (.ops ((⟨dst,.call ⟨.value x,args,Zl⟩,ty,pos,after,gd⟩,none)::r)::k) .normal s:=by
 refine VC hb [] hf hx ZM hF ht λd h hR=>?_;obtain⟨t,rfl,R,hX⟩:=hR;have h1:=hk (s.h.length+t) (Yg s.h [] h) hX (QBF R) λo ho=>by
  unfold Yg W7;exact(QG (Qb ho)).trans ho
 have e:D.idx (VZ s.h.length []) (.tup [V0 E,.ptr t 0 0 0,Qa 0])=.tup [V0 E,.ptr (s.h.length+t) 0 0 0,Qa 0]:=by
  simp only[D.idx,jN,VZ,V0,Qa]
 rw[e];exact h1
def Qke(x:YD)(K:WM x.config)(hlen:x.ops.length<=200)(ZM:∀o∈x.ops,ZV.Ok o/\ZV.Small o):
  QW prog 20 [.agg x.cells] (λd hh=>∃t,d=.tup [V0 (Zn (S0 x.config) x.ops).2.2,.ptr t 0 0 0,Qa 0]/\VN hh t (Zn (S0 x.config) x.ops).1.M.T/\Jd (Zn (S0 x.config) x.ops).1):=by
 refine bn Q4 200 func20 rfl ntmps20 results20 rfl λbase w hb=>?_;simp only[go_sem,Qe];have hN:=Qz8 (own:=λ_=>.no) (tw:=λ_=>.my) (λ_ _=>rfl) [(⟨.one,0,3,1,λ_=>x.cells⟩:Ob)] K;refine cH1 hb QpM hN λd h1 hR=>?_;obtain⟨Jl,Vr,p,rfl,T1,K1⟩:=hR;have Xz:h1[0]? = some _:=K1.my 0 σ rfl;have LI:=Qb Xz;apply Qg hb;simp only[go_sem,Qe,Xz,LI];have kp0:∀l,l<[(⟨.one,0,3,1,λ_=>x.cells⟩:Ob)].length->True->l<h1.length/\h1[l]? = [(⟨.one,0,3,1,λ_=>x.cells⟩:Ob)][l]?/\Jl l=.no/\Vr l=.my:=λl hl _=>by
  have:l=0:=by simpa using hl
  subst this;exact⟨LI,Xz,K1.s1 0 σ,K1.s2 0 σ⟩
 have I0:=E0.start (ops:=x.ops) T1 kp0 (by have:=K1.len;simpa using this);obtain⟨lo,Zq⟩:∃lo,lo=h1.length:=⟨_,rfl⟩;refine DF (Qz.Qir 7 12 (by simp only[go_sem])) ?_;simp only[go_sem];rw[<- Zq]at I0 ⊢;refine Z3 (λk s=>∃g own tw H S E row,E0 x.config x.ops p k lo g [(⟨.one,0,3,1,λ_=>x.cells⟩:Ob)] (λ_=>True) own tw H S E row/\s=⟨[(5,.ptr p 0 0 0),(6,Qa 0),(7,.ref lo g 0 E.length),(24,.imm 10 x.ops.length (ZV.rows x.ops)),(25,Qa x.ops.length),(26,Qa k)],H⟩) x.ops.length QM ⟨_,_,_,_,_,_,_,I0,rfl⟩ ?_;clear I0 T1 K1 Xz LI hN kp0 Zq;rintro k _ hk ⟨g,own,tw,H,S,E,row,I,rfl⟩;by_cases Qj:k<x.ops.length
 .have dk:=QU Qj;have Zb:=J9 (show k<4611686018427387904 from ω);obtain⟨o,ho⟩:∃o,o=x.ops.getD k default:=⟨_,rfl⟩;have gW:o∈x.ops:=by rw[ho];exact qg x.ops default k Qj
  obtain⟨⟨_,_,_,_,Tx⟩,hV,hC,gI⟩:=And.intro I.T (And.intro I.V (And.intro I.C I.gI));have hDo:=QzX ⟨_,_,_,_,Tx.BG [⟨.one,0,10,1,λ_=>o.cells⟩]⟩ hV hC ω o (ZM o gW).1 (ZM o gW).2.c (ZM o gW).2.r;apply Qg hb;simp only[go_sem,Qe,dk,Qj,<- ho];refine Zw hb QpN hDo λd h2 hR=>?_;obtain⟨dl,JW,Xd,rfl,T2,s2,K2⟩:=hR;refine HU Q4 hb 8 ?_;simp only[go_sem,Qe];obtain⟨G7,h4,CS,G3,W4,ZG,TY,I4⟩:=I.step Qj (ho▸(ZM o gW).1.2.1.2) (ho▸T2) (ho▸s2) K2 [⟨.one,0,3,1,λ_=>(JM S o).r.cells⟩] (w0:=⟨w,[],[]⟩) rfl rfl (fr:=[(5,.ptr p 0 0 0),(6,Qa 0),(7,.ref lo g 0 E.length),(11,dl),(24,.imm 10 x.ops.length (ZV.rows x.ops)),(25,Qa x.ops.length),(26,Qa k)]) 11 rfl;rw[<- ho]at W4 ZG I4;refine Rp (Qz.trans (Qz.frame (fr':=[(5,.ptr p 0 0 0),(6,Qa 0),(7,.ref lo g 0 E.length),(11,dl),(24,.imm 10 x.ops.length (ZV.rows x.ops)),(25,Qa x.ops.length),(26,Qa k)]) (by simp only[go_sem])) W4) ?_;have QBH:=Qb TY;have Z7:∀i,i<(JM S o).l.length->(G7 i).all D.Vn=true:=λi hi=>by rw[ZG i hi];rfl
  have lE:=I4.lE;rw[ZW]at lE;apply Qg hb;simp only[go_sem,Qe,TY,QBH,Z7];refine⟨⟨ω,Z7⟩,?_⟩;have hlE:E.length+(JM S o).l.length=(E++(JM S o).l).length:=(ZW).symm;rw[hlE]at I4 lE ⊢;obtain⟨E5,hE5⟩:∃E5,E5=E++(JM S o).l:=⟨_,rfl⟩;rw[<- hE5]at I4 lE ⊢;rw[hE5]at I4 ⊢;exact⟨Qj,_,Qz.frame (by simp only[go_sem,Zb]),_,_,_,_,_,_,_,I4,rfl⟩
 .obtain rfl:k=x.ops.length:=ω;have dk:=QI Qj;have eS:=I.S_;have eE:=I.E_;rw[q9]at eS eE;have hI:=I.V;apply Qg hb;simp only[go_sem,Qe,dk,Qj];obtain⟨h5,wN,TQ,W5,T5,k5⟩:=I.close (w0:=⟨w,[],[]⟩) rfl rfl (fr:=[(5,.ptr p 0 0 0),(6,Qa 0),(7,.ref lo g 0 E.length)]) 7 rfl;refine DF (Qz.trans (Qz.frame (fr':=[(5,.ptr p 0 0 0),(6,Qa 0),(7,.ref lo g 0 E.length)]) (by simp only[go_sem])) W5) ?_;clear I W5;apply JH hb;refine Cc hb Qc8 rfl ?_ (Qhk _) rfl λd h hR=>?_
  .simp only[go_sem,Qe]
  obtain⟨rfl,rfl⟩:=hR;apply JH hb;obtain⟨q,hq⟩:∃q,q=h5.length:=⟨_,rfl⟩;obtain⟨H0,Ue⟩:∃H0,H0=h5++[(QK .i64 0 []:Ob),⟨.one,0,1,1,λ_=>[.mref q 0]⟩]:=⟨_,rfl⟩;rw[<- hq,<- Ue];have t0:H0[q]? = some (QK .i64 0 []):=by rw[Ue];exact KV hq.symm
  have t1:H0[q+1]? = some ⟨.one,0,1,1,λ_=>[.mref q 0]⟩:=by rw[Ue];exact VD (k:=1) hq.symm
  have Y0:BL q (QV wN h5 .no) (Z4 TQ h5 .my) H0 p S (rounds S.M.T 0):=by
   obtain⟨_,_,_,_,Tx⟩:=T5;refine⟨by rw[Ue];exact⟨_,_,_,_,Tx.BG _⟩,⟨q,0,[],t1,t0,Va.nil,.inr rfl,.inl rfl⟩,λl hl=>?_⟩;exact⟨jj ω,EW ω⟩
  have IT:JG S.M.T:=hI.I.tree;have Ou:=IT.len;obtain⟨ids,LO⟩:∃ids,ids=S.M.T.map (·.iD):=⟨_,rfl⟩;have hil:ids.length=S.M.T.length:=by rw[LO,J1]
  clear T5 k5 Ue hq t0 t1;refine Z3 (λr s=>∃own tw H,BL q own tw H p S (rounds S.M.T r)/\s=⟨[(5,.ptr p 0 0 0),(6,Qa 0),(7,V0 E),(12,.ptr (q+1) 0 0 0),(41,Qa r)],H⟩) 17 QM ⟨_,_,_,Y0,rfl⟩ ?_;clear Y0;rintro r _ hr ⟨own,tw,H,Y,rfl⟩;by_cases We:r<17
  .have dr:=QU (show (r:Int)<17 from ω);have Zb:=J9 (show r<4611686018427387904 from ω);have hC:=QAi Y.T;rw[<- LO]at hC;apply Qg hb;simp only[go_sem,Qe,dr];refine Zw hb QpO hC λd h6 hR=>?_;obtain⟨rfl,g6,rfl⟩:=hR;have Y6:=Y.app g6;apply JH hb;refine Z3 (λj s=>∃own tw H,BL q own tw H p S ((S.M.T.take j).foldl zH (rounds S.M.T r))/\s=⟨[(5,.ptr p 0 0 0),(6,Qa 0),(7,V0 E),(12,.ptr (q+1) 0 0 0),(41,Qa r),(44,ints ids),(45,Qa ids.length),(46,Qa j)],H⟩) ids.length QM ⟨_,_,_,Y6,rfl⟩ ?_;clear Y6 Y hC;rintro j _ hj ⟨own,tw,H,Y,rfl⟩;by_cases XJ:j<ids.length
   .have dj:=QU XJ;have LP:=J9 (show j<4611686018427387904 from ω);obtain⟨i,hi⟩:∃i,i=ids.getD j 0:=⟨_,rfl⟩;obtain⟨c,hc⟩:∃c,c=S.M.T.getD j default:=⟨_,rfl⟩;have FU:c∈S.M.T:=by rw[hc];exact qg _ default j ω
    have kS:c.iD=i:=by rw[hi,LO,hc,getD_map (λc:Qq=>c.iD) S.M.T default 0 j ω]
    have V:=Y.T;obtain⟨_,_,_,_,Tx⟩:=V;obtain⟨n,hn,lH⟩:=Tx.co.I.Lb ((J6 IT.rising).2 ⟨FU,kS⟩);have hG:=QAh Y.T hn;have hP:=(uy IT (S.M.T.take j) (rounds S.M.T r) (λc hc=>List.mem_of_mem_take hc) (uz IT r).1).1;have Y7:=Y.app [QAg n (JV S.M i) (Wm S.M i n)];have hA:=QfI Y7.R hP.ok n.c;have zy:(S.M.T.take (j+1)).foldl zH (rounds S.M.T r)=zH ((S.M.T.take j).foldl zH (rounds S.M.T r)) n.c:=by
     rw[getD_take _ default _ ω,jo,<- hc,<- lH];rfl
    apply Qg hb;simp only[go_sem,Qe,dj,XJ,<- hi];apply Gp hb QpP hG;apply JH hb;refine cH1 hb Qc9 hA λd h8 hR=>?_;obtain⟨rfl,R8,s8⟩:=hR;have Y8:=Y7.eW R8 s8;apply JH hb;rw[show (if (jS ((S.M.T.take j).foldl zH (rounds S.M.T r)) n.c (up ((S.M.T.take j).foldl zH (rounds S.M.T r)) n.c.parent).length)=0 then VK ((S.M.T.take j).foldl zH (rounds S.M.T r)) n.c else (S.M.T.take j).foldl zH (rounds S.M.T r))=(S.M.T.take (j+1)).foldl zH (rounds S.M.T r) from zy.symm]at Y8;exact⟨XJ,_,Qz.frame (by simp only[go_sem,LP]),_,_,_,Y8,rfl⟩
   .obtain rfl:j=ids.length:=ω;have dj:=QI XJ;rw[hil,q9]at Y;apply Qg hb;simp only[go_sem,Qe,dj,XJ];apply JH hb;exact⟨ω,_,Qz.frame (by simp only[go_sem,Zb]),_,_,_,Y,rfl⟩
  .obtain rfl:r=17:=ω;have dr:=QI (show ¬((17:Nat):Int)<17 from ω);rw[QAH IT 17 ω]at Y;have R:=Y.R.toR;rw[eS]at R hI;rw[eE];apply Qg hb;simp only[go_sem,Qe,dr];apply JH hb;exact⟨q+1,rfl,R,hI⟩
def Qki{l:List ZV}(h:E6 l=true):∀o∈l.tail,o.kind≠1:=λo ho=>by
 unfold E6 at h;rw[List.drop_one]at h;simpa using XK.1 h o ho
def QBJ{p:Pk}{c:Cf}(K:WM c)(h1:1<=p.len)(h2:p.len<=c.ZX):vB p c.t<=((c.ZX.toNat*c.t.toNat:Nat):Int)/\0<=vB p c.t:=by
 have k1:=K.l2;have k2:=K.t2;have k3:=K.t1;obtain⟨n,hn⟩:∃n:Nat,p.len=n:=⟨p.len.toNat,ω⟩;obtain⟨T,hT⟩:∃n:Nat,c.t=n:=⟨c.t.toNat,ω⟩;obtain⟨L,hL⟩:∃n:Nat,c.ZX=n:=⟨c.ZX.toNat,ω⟩;rw[hn,hL]at h2;rw[hL]at k1;rw[hT]at k2 k3;have h3:n*T<=L*T:=X7 T ω;have h4:L*T<=16384*65536:=qC ω ω;have h5:(n:Int)*(T:Int)=((n*T:Nat):Int):=rfl;unfold vB;rw[Qd ⟨ω,ω⟩,hn,hT,hL,h5,IntKind.wrap_u64];show _<=((L*T:Nat):Int)/\_;generalize n*T=a at *;generalize L*T=b at *;omega
def QBK{c}(K:WM c)(ops:List ZV)(ZM:∀o∈ops,ZV.Ok o):∀i,i<(Zn (S0 c) ops).2.2.length ->
  0<=((Zn (S0 c) ops).2.2.getD i default).at_/\((Zn (S0 c) ops).2.2.getD i default).at_<=4611686018427387904/\1<=((Zn (S0 c) ops).2.2.getD i default).len/\((Zn (S0 c) ops).2.2.getD i default).len<=c.ZX /\
  (((Zn (S0 c) ops).2.2.getD i default).J8=false->((Zn (S0 c) ops).2.2.getD i default).done<=((Zn (S0 c) ops).2.2.getD i default).at_+((c.ZX.toNat*c.t.toNat:Nat):Int)):=by
 have A:=uw (x:=c) ops (Jd.gM K) (W:=λ_=>[]) (a:=TZ) (d:=0) ⟨λj=>rfl,rfl,Dg _,Dg _,rfl⟩ ZM;have hq:=λ{i:Nat} (hi:i<(Zn (S0 c) ops).2.2.length) {k:Nat} (hk:k<8)=>Qjs A.ok hi hk;obtain⟨l,hle⟩:∃l,l=(Zn (S0 c) ops).2.2:=⟨_,rfl⟩;rw[<- hle]at hq ⊢;have Kz:∀i,i<l.length->(OW l i).at_<=(l.getD i default).at_/\(l.getD i default).at_<=4611686018427387904:=λi hi=>by
  have h:decide ((l.getD i default).at_<(OW l i).at_\/4611686018427387904<(l.getD i default).at_)=false:=hq hi (k:=1) π;rw[Pz]at h;omega
 have YZ:∀i,i<l.length->0<=(l.getD i default).at_:=λi=>by
  induction i with
  | zero=>intro hi;exact(Kz 0 hi).1
  | succ i ih=>
   intro hi;have h1:=ih ω;have h2:(l.getD i default).at_<=(l.getD (i+1) default).at_:=(Kz (i+1) hi).1;omega
 intro i hi;have hl:1<=(l.getD i default).len/\(l.getD i default).len<=c.ZX:=by
  have h:(kx (l.getD i default).pk c.ZX != 0)=false:=hq hi (k:=2) π;unfold kx at h;split at h
  .cases h
  .split at h
   .cases h
   .rename_i h5;have h5:¬¬(1<=(l.getD i default).len/\(l.getD i default).len<=c.ZX):=h5;omega
 refine⟨YZ i hi,(Kz i hi).2,hl.1,hl.2,λK9=>?_⟩;have h:(!(l.getD i default).J8&&(l.getD i default).done != IntKind.u64.wrap ((l.getD i default).at_+vB (l.getD i default).pk c.t))=false:=hq hi (k:=7) π;rw[K9]at h;have h:(l.getD i default).done=IntKind.u64.wrap ((l.getD i default).at_+vB (l.getD i default).pk c.t):=by simpa using h
 have ht:=QBJ (p:=(l.getD i default).pk) K hl.1 hl.2;have h1:=K.l2;have h2:=K.t2;have h3:c.ZX.toNat*c.t.toNat<=16384*65536:=qC ω ω;have h4:=YZ i hi;have h5:=(Kz i hi).2;rw[h,IntKind.wrap_u64];omega
def QBL{e:Ev}(h:0<=e.at_/\e.at_<=18446744073709551615)(h2:-9223372036854775808<=e.len/\e.len<=9223372036854775807):e.kz:=by
 refine⟨?_,?_⟩
 .simp only[Lit.wf,Zy,XL];exact h
 .simp only[Lit.wf,Zy,XL];exact h2
def Qkj{c}(K:WM c)(ops:List ZV)(ZM:∀o∈ops,ZV.Ok o):∀e∈(Zn (S0 c) ops).2.2,e.kz:=λe he=>by
 obtain⟨i,hi,rfl⟩:=Up.1 he;have h:=QBK K ops ZM i hi;rw[Q5,QP hi]at h;obtain⟨h1,h2,h3,h4,_⟩:=h;have h1:0<=((Zn (S0 c) ops).2.2[i]).at_:=h1;have h2:((Zn (S0 c) ops).2.2[i]).at_<=4611686018427387904:=h2;have h3:1<=((Zn (S0 c) ops).2.2[i]).len:=h3;have h4:((Zn (S0 c) ops).2.2[i]).len<=c.ZX:=h4;have:=K.l2;exact QBL ω ω
end Go.Fg.X
