/- The statement TopRefused is proved. No conditions. -/
import Derived.Test.YtagebhlinnibkaaGreatTB5A
import Derived.Test.YtagebhlinnibkaaGreatXLayA
import Derived.Test.YtagebhlinnibkaaGreatRows
set_option maxRecDepth 100000
set_option maxHeartbeats 16000000
set_option linter.unusedVariables false
set_option linter.unusedSimpArgs false
set_option linter.unusedSectionVars false
set_option linter.defProp false
namespace Go.Fg
open Go.RowKit (Below)
def QHW{Z}{h:List Ob}{pl}{w}{l g off n}{v}(r:QE Z h pl w (.ref l g off n) v){o:Ob}(ho:h[l]? = some o)(hg:o.gen=g):∃a cap,v=.slice a n cap/\(a.isNone=true->n=0):=by
 obtain⟨o',p,a,cap,rfl,ZT,hp,_,_,hs⟩:=Cw r;rw[ho]at ZT;cases ZT;refine⟨a,cap,rfl,λhn=>?_⟩;rcases hs hg.symm with ⟨h1,h2⟩|⟨b,q,c,el,rfl,ha,_⟩
 ·first|exact h1|exact h2
 ·rw[ha]at hn;cases hn
section
variable {P:Program}{L:Jt}{base nt:Nat}{w0:Start}{Q:Exit->St->Prop}
def QHX(hL:Jq P L){k:List Item}{dst:Option Nat}{BM:TypeId}{pos:String}{after:Array Edge}{gd:Option (Nat × Bool)}{r:List (Oper × G)}{s:St}{t t' e a b:Nat}{x:Operand}{zt:List Value}{l g off n:Nat}{o':Ob}
  (hx:Qt s.fr x=.ref l g off n) (hoo:s.h[l]? = some o') (Ab:o'.gen=g) (ht:ty L t=some ⟨.slice e,a,b,zt⟩) (hd:ZQ nt dst=true) (h1:∀b:Bool,(b=true->n=0)->QA P base nt w0 Q (.ops r::k) .normal ⟨ZC s.fr dst (.raw (.bool b)),s.h⟩) :
  QA P base nt w0 Q (.ops ((⟨dst,.binOp .eql t x (.const (.slice none 0 0)) t',BM,pos,after,gd⟩,none)::r)::k) .normal s:=by
 simp only[QA]at h1 ⊢;intro Z z pl ac w rr bb;have WG:=rr.eval x;rw[hx]at WG;obtain⟨ad,cap,hv,hb⟩:=QHW WG hoo Ab;have hc:ac.eval (.const (.slice none 0 0))=.slice none 0 0:=rfl;have Zl:(execOp ac.eval ⟨dst,.binOp .eql t x (.const (.slice none 0 0)) t',BM,pos,after,gd⟩).run P w=.ok (.value (.bool ad.isNone)) w:=by
  have hu:=xZ (hL _ _ ht) rfl;have he:(Op.equal t (.slice ad n cap) (.slice none 0 0)).run P w=.ok ad.isNone w:=fh λm=>by
   cases ad<;>simp[Op.equalIn,run_underlying hu]
  have hq:(eqGuard .eql t x (.const (.slice none 0 0)) (.slice ad n cap) (.slice none 0 0)).run P w=.ok () w:=by simp[eqGuard]
  simp[execOp,hv,hc,Go.binOp,he,hq]
 simp only[qn,XB,K6];unfold Oper.wp;rw[Zl];simp only[Oper.upon_value];refine h1 _ hb Z z pl _ w ?_ bb;cases hdd:dst with
 | none=>exact rr
 | some t=>rw[hdd]at hd;exact rr.to (Tr.ext rr.o λ_ _=>rfl) rr.o (kI hd) (.cl _ _ (.raw _))
end
end Go.Fg
namespace Go.Fg.X
open Go.Proofs Go.Fg
open Go.Proofs.Tryz
def Te(h:List Ob)(l:List JU)(d:D)(h':List Ob):Prop:=∃g,h'=h++g/\WA (λj=>h.length<=j) (h++g) 9 JU.cells d l
def QHZ{h:List Ob}{lo g}{row}{l:List JU}(ho:h[lo]? = some ⟨.arr,g,9,l.length,row⟩)(hr:∀i,i<l.length->row i=JU.cells (l.getD i default))(hl:l.length<1000000):QK prog 101 h [.ref lo g 0 l.length] (Te h l):=by
 refine Q6 Qi 200 func101 rfl ntmps101 results101 rfl λbase w pl hb=>?_;have Qg:=Qc ho;simp only[go_sem,Qa,ho,Qg];refine QHX BE (by simp only[go_sem];rfl) ho rfl rfl rfl λb ZG=>?_;cases b with
 | true=>
  have h0:=ZG rfl;apply QC hb;exact⟨[],(QU h).symm,.inl ⟨rfl,Mj.1 h0⟩⟩
 | false=>
  refine Qe hb ?_;simp only[go_sem,Qa,ho,Qg];refine⟨⟨by omega,λi hi=>by rw[hr i hi];rfl⟩,_,rfl,.inr ⟨h.length,_,_,rfl,QB _,Kx rfl,λi hi=>?_⟩⟩;rw[vL (Z7 _)];exact hr i hi
def QH0(h):QK prog 101 h [.nil] (Te h []):=QK.PQ (Qm4 h [] (by decide)) ⟨rfl,trivial⟩
def QoK{own}{tw}{h}{p}{S:Zf}(T:Kj own tw h p S):QK prog 33 h [.ptr p 0 0 0] (Te h S.R):=by
 obtain⟨ps,pl,pr,pt,T⟩:=T;have ho:=T.o;obtain⟨dr,le,dm,c,es,ms,Q⟩:=T.tb;have q1:=Q.o;have hr:=Q.rs;have QM0:S.R.length<=32:=by
  have:=Q.ok;unfold qE at this;split at this
  ·cases this
  ·omega
 have hCl:QK prog 101 h [dr] (Te h S.R):=by
  rcases hr with ⟨rfl,h0⟩|⟨lo,g,row,rfl,_,Aq,BR⟩
  ·rw[h0];exact QH0 h
  ·exact QHZ Aq BR (by omega)
 have Pa:dr.KK=true:=by rcases hr with ⟨rfl,_⟩|⟨_,_,_,rfl,_⟩<;>rfl
 have hq:Yd dr dr:=by rcases hr with ⟨rfl,_⟩|⟨_,_,_,rfl,_⟩<;>rfl
 have hTb:QK prog 78 h [.ptr pr 0 0 0] (Te h S.R):=by
  refine Q6 Qi 200 func78 rfl ntmps78 results78 rfl λbase w pl hb=>?_;have QH3:=Qc q1;simp only[go_sem,Qa,q1,QH3,Pa];refine VH hb QhE rfl ?_ hCl rfl λd h1 hR=>?_
  ·simp only[go_sem];exact hq
  apply QC hb;exact hR
 refine Q6 Qi 200 func33 rfl ntmps33 results33 rfl λbase w pl hb=>?_;have Qg:=Qc ho;simp only[go_sem,Qa,ho,Qg];refine Jh hb QuK hTb λd h1 hR=>?_;apply QC hb;exact hR
def zl.new{own own'}{tw ZK}{H}{p p'}{S S'}(W:zl own tw own' ZK H p p' S S'){L}{d}{h'}(N:Te H L d h'){w0:Start}(hF:w0.F=[])(hp:w0.pl=[]){fr}(t)(ht:get fr t=d):
  ∃h4 own4 Kn dC dD,Qp w0 ⟨fr,h'⟩ ⟨put fr t (yU L),h4⟩/\zl own4 Kn dC dD h4 p p' S S':=by
 obtain⟨g,rfl,hs⟩:=N;obtain⟨h4,W4,wk,k4⟩:=Qoc hF hp (λa=>rfl) t ht hs;refine⟨h4,_,_,_,_,W4,(W.app g).cK wk λl hl hn=>k4 l hl λXP=>hn ?_⟩;exact⟨⟨Xb XP,.inr (zf XP)⟩,Xb XP,.inr (zf XP)⟩
def QH4(x:KW)(o:QZ)(hx:∀a∈x.ops,QZ.Ok a)(ho:QZ.Ok o):Q4 prog 7 [.agg x.cells,.agg o.cells] (Qn (QJ true)):=by
 refine Oo (R:=λd hh=>d=QJ true) _ rfl (λd hh h=>.inl (h▸kP _ _)) ?_;have hF:=SU x 1000 (by decide);have hM:=Sx x.config;have xQ:=Qom;refine Il Qi 200 func7 rfl ntmps7 results7 rfl λbase w hb=>?_;simp only[go_sem,Qa];cases YM:wN x 1000 with
 | false=>
  rw[YM]at hF;refine Zu hb [] Yf rfl ?_ hF rfl λd h hR=>?_
  ·simp only[go_sem,Qa,Go.undef]
  obtain⟨rfl,rfl⟩:=hR;simp only[go_sem,Qa,Go.undef];refine Qe hb ?_;simp only[go_sem,Qa,Go.undef];refine Zu hb [] ym rfl ?_ xQ rfl λd h hR=>?_
  ·simp only[go_sem,Qa]
  obtain⟨rfl,rfl⟩:=hR;simp only[go_sem,Qa];exact V9 hb
 | true=>
 rw[YM]at hF;cases Y7:Fu x.config with
 | false=>
  rw[Y7]at hM;refine Zu hb [] Yf rfl ?_ hF rfl λd h hR=>?_
  ·simp only[go_sem,Qa,Go.undef]
  obtain⟨rfl,rfl⟩:=hR;simp only[go_sem,Qa,Go.undef];refine Qe hb ?_;simp only[go_sem,Qa,Go.undef];refine Zu hb [] jr rfl ?_ hM rfl λd h hR=>?_
  ·simp only[go_sem,Qa,Go.undef]
  obtain⟨rfl,rfl⟩:=hR;simp only[go_sem,Qa,Go.undef];refine Qe hb ?_;simp only[go_sem,Qa,Go.undef];refine Zu hb [] ym rfl ?_ xQ rfl λd h hR=>?_
  ·simp only[go_sem,Qa]
  obtain⟨rfl,rfl⟩:=hR;simp only[go_sem,Qa];exact V9 hb
 | true=>
 rw[Y7]at hM;by_cases a1:(40:Int)<o.changes.length
 ·have d1:=Q5 a1;refine Zu hb [] Yf rfl ?_ hF rfl λd h hR=>?_
  ·simp only[go_sem,Qa,Go.undef]
  obtain⟨rfl,rfl⟩:=hR;simp only[go_sem,Qa,Go.undef];refine Qe hb ?_;simp only[go_sem,Qa,Go.undef];refine Zu hb [] jr rfl ?_ hM rfl λd h hR=>?_
  ·simp only[go_sem,Qa,Go.undef,d1]
  obtain⟨rfl,rfl⟩:=hR;simp only[go_sem,Qa,Go.undef,d1];refine Qe hb ?_;simp only[go_sem,Qa,Go.undef,d1];refine Zu hb [] ym rfl ?_ xQ rfl λd h hR=>?_
  ·simp only[go_sem,Qa]
  obtain⟨rfl,rfl⟩:=hR;simp only[go_sem,Qa];exact V9 hb
 have d1:=QN a1;by_cases b1:(40:Int)<o.rules.length
 ·have d2:=Q5 b1;refine Zu hb [] Yf rfl ?_ hF rfl λd h hR=>?_
  ·simp only[go_sem,Qa,Go.undef]
  obtain⟨rfl,rfl⟩:=hR;simp only[go_sem,Qa,Go.undef];refine Qe hb ?_;simp only[go_sem,Qa,Go.undef];refine Zu hb [] jr rfl ?_ hM rfl λd h hR=>?_
  ·simp only[go_sem,Qa,Go.undef,d1,d2]
  obtain⟨rfl,rfl⟩:=hR;simp only[go_sem,Qa,Go.undef,d1,d2];refine Qe hb ?_;simp only[go_sem,Qa,Go.undef,d1,d2];refine Zu hb [] ym rfl ?_ xQ rfl λd h hR=>?_
  ·simp only[go_sem,Qa]
  obtain⟨rfl,rfl⟩:=hR;simp only[go_sem,Qa];exact V9 hb
 have d2:=QN b1;have K:=Sz.1 Y7;obtain⟨hlen,Ja⟩:=S5 YM hx;refine Zu hb [] Yf rfl ?_ hF rfl λd h hR=>?_
 ·simp only[go_sem,Qa,Go.undef]
 obtain⟨rfl,rfl⟩:=hR;simp only[go_sem,Qa,Go.undef];refine Qe hb ?_;simp only[go_sem,Qa,Go.undef];refine Zu hb [] jr rfl ?_ hM rfl λd h hR=>?_
 ·simp only[go_sem,Qa,Go.undef,d1,d2]
 obtain⟨rfl,rfl⟩:=hR;simp only[go_sem,Qa,Go.undef,d1,d2];refine Qe hb ?_;simp only[go_sem,Qa,Go.undef,d1,d2];refine qZ hb iN (o5 (own:=λ_=>.no) (tw:=λ_=>.my) (λ_ _=>rfl) [(⟨.one,0,3,1,λ_=>x.cells⟩:Ob),⟨.one,0,10,1,λ_=>o.cells⟩] x K hlen Ja) λd h1 hR=>?_;obtain⟨Ji,Kw,p,rfl,T1,C1,o1,V1,D1⟩:=hR;have Kc:h1[0]? = some _:=D1.my 0 (by simp) rfl;have VU:=Qc Kc;have ZI:h1[1]? = some _:=D1.my 1 (by simp) rfl;have KP:=Qc ZI;refine Qe hb ?_;simp only[go_sem,Qa,Kc,VU];refine qZ hb iN (o5 (own:=λ_=>.no) (tw:=λ_=>.my) (λ_ _=>rfl) h1 x K hlen Ja) λd h2 hR=>?_;obtain⟨JC,Vv,p2,rfl,T2,_,_,_,D2⟩:=hR;generalize (Zh (S0 x.config) x.ops).1=S at *;have W0:zl (QX Ji h1 .no) (ZX Kw h1 .my) JC Vv h2 p p2 S S:=⟨T1.Ot λl hl _=>D2.my l hl rfl,T2,λl hl=>by
  by_cases h3:l<h1.length
  ·exact .inr ⟨D2.s1 l h3,D2.s2 l h3⟩
  ·exact .inl ⟨Xb (by omega),zf (by omega)⟩⟩
 have KJ:h2[1]? = some _:=(D2.my 1 KP rfl).trans ZI;have YH:=Qc KJ;have hD:=Fz W0.b V1 C1 (by omega) o ho (by omega) (by omega);refine Qe hb ?_;simp only[go_sem,Qa,KJ,YH];refine Jh hb EK hD λd h3 hR=>?_;obtain⟨dl,YI,wL,rfl,T3,s3,D3⟩:=hR;refine Ye Qi hb 9 ?_;simp only[go_sem,Qa];obtain⟨Y,hY⟩:∃Y,Y=QY S o:=⟨_,rfl⟩;rw[<- hY]at T3 s3 ⊢;obtain⟨h4,o4,t4,o4',t4',Wk4,W4,k4,g4⟩:=W0.swap.step T3 s3 D3 [⟨.one,0,3,1,λ_=>Y.r.cells⟩] (w0:=⟨w,[],[]⟩) rfl rfl (fr:=[(5,.ptr p 0 0 0),(6,Qb 0),(7,.ptr p2 0 0 0),(8,Qb 0),(9,.ptr h3.length 0 0 0),(10,dl)]) 10 rfl;refine qS (Qp.trans (Qp.frame (fr':=[(5,.ptr p 0 0 0),(6,Qb 0),(7,.ptr p2 0 0 0),(8,Qb 0),(9,.ptr h3.length 0 0 0),(10,dl)]) (by simp only[go_sem])) Wk4) ?_;have hr:h4[h3.length]? = some ⟨.one,0,3,1,λ_=>Y.r.cells⟩:=(g4 0 eR).1;have Vg:=Qc hr;by_cases e0:Y.r.err=0
 ·have b0:=Wg e0;refine Qe hb ?_;simp only[go_sem,Qa,hr,Vg,b0];refine Zu hb [] ym rfl ?_ xQ rfl λd h hR=>?_
  ·simp only[go_sem,Qa]
  obtain⟨rfl,rfl⟩:=hR;simp only[go_sem,Qa];exact V9 hb
 have b0:=J5 e0;obtain⟨XX,Rf⟩:=QFY (S:=S) (o:=o) (by rw[<- hY];exact e0);rw[<- hY]at XX Rf;have On:=QoK W4.b;refine Qe hb ?_;simp only[go_sem,Qa,hr,Vg,b0];refine Jh hb Qhq On λd h5 hR=>?_;refine Ye Qi hb 4 ?_;simp only[go_sem,Qa];obtain⟨h6,o6,t6,o6',t6',Wk6,W6⟩:=W4.new hR (w0:=⟨w,[],[]⟩) rfl rfl (fr:=[(5,.ptr p 0 0 0),(6,Qb 0),(7,.ptr p2 0 0 0),(8,Qb 0),(10,Kv Y.l),(11,d)]) 11 rfl;refine kO (Qp.trans (Qp.frame (fr':=[(5,.ptr p 0 0 0),(6,Qb 0),(7,.ptr p2 0 0 0),(8,Qb 0),(10,Kv Y.l),(11,d)]) (by simp only[go_sem])) Wk6) ?_;have Hb:=QoK W6.a;rw[Rf.R]at Hb;apply QC hb;refine Jh hb Qhq Hb λd h7 hR=>?_;refine Ye Qi hb 4 ?_;simp only[go_sem,Qa];obtain⟨h8,o8,t8,o8',t8',Wk8,W8⟩:=W6.new hR (w0:=⟨w,[],[]⟩) rfl rfl (fr:=[(5,.ptr p 0 0 0),(6,Qb 0),(7,.ptr p2 0 0 0),(8,Qb 0),(10,Kv Y.l),(11,yU S.R),(12,d)]) 12 rfl;refine qS (Qp.trans (Qp.frame (fr':=[(5,.ptr p 0 0 0),(6,Qb 0),(7,.ptr p2 0 0 0),(8,Qb 0),(10,Kv Y.l),(11,yU S.R),(12,d)]) (by simp only[go_sem])) Wk8) ?_;have hAl:=λg=>Qof (W8.swap.app g) Rf true nofun (by unfold QP;rw[Rf.ck,Rf.un,Rf.M.due]);have ZB:((Y.l.length:Int)==0)=true:=by rw[XX];rfl
 have Sw:S.R.length<=32:=by
  obtain⟨_,_,_,_,Tx⟩:=W0.a;obtain⟨_,_,_,_,_,_,Q⟩:=Tx.tb;have:=Q.ok;unfold qE at this;split at this
  ·cases this
  ·omega
 generalize S.R=R at *;refine Qe hb ?_;simp only[go_sem,Qa,kB];refine Jg (λk s=>∃g H,H=h8++g/\s=⟨[(5,.ptr p 0 0 0),(6,Qb 0),(7,.ptr p2 0 0 0),(8,Qb 0),(10,Kv Y.l),(12,yU R),(66,yU R),(67,Qb R.length),(68,Qb k)],H⟩) R.length QQ ⟨[],_,(QU _).symm,rfl⟩ ?_;rintro k _ hk ⟨g,_,rfl,rfl⟩;by_cases Qj:k<R.length
 ·have dk:=Q5 Qj;have QT:=JX (show k<4611686018427387904 by omega);refine Qe hb ?_;simp only[go_sem,Qa,dk,Qj];apply QH hb [0,1,2,3,4,5];simp only[go_sem,Qa,Qj];exact⟨_,Qp.frame (by simp only[go_sem,QT]),_,_,rfl,rfl⟩
 ·have dk:=QN Qj;refine Qe hb ?_;simp only[go_sem,Qa,dk,Qj];refine Qe hb ?_;simp only[go_sem,Qa,ZB,Go.undef];refine Jh hb Qhp (hAl g) λd h9 hR=>?_;subst hR;apply QC hb;refine Zu hb [] ym rfl ?_ xQ rfl λd h hR=>?_
  ·simp only[go_sem,Qa]
  obtain⟨rfl,rfl⟩:=hR;simp only[go_sem,Qa];exact V9 hb
end Go.Fg.X
namespace Go.Fg.X
open Go.Proofs Go.Fg Go.Proofs.YtagebhlinnibkaaGreat
open Go.ChangeShapes Go.RowKit
open Go.Proofs.Tryz
def QH5:laidOutB prog=true:=by kernel_rfl
def QH6:mapsRowed prog=true:=by kernel_rfl
def QH7:prog.stopsHeard=true:=by kernel_rfl
def QH8:prog.mayEnter=true:=by kernel_rfl
def QH9:(Rows.topRefusedRow.lifted==prog.liftsFinal)=true:=by kernel_rfl
def QIa:(prog.make==some Rows.topRefusedRow.make)=true:=by kernel_rfl
end Go.Fg.X
namespace Go.Fg.X
open Go.Proofs Go.Fg Go.Proofs.YtagebhlinnibkaaGreat
open Go.ChangeShapes Go.WideShapes Go.ChangeAt Go.RowKit
open Go.Proofs.Tryz
def QIb:ownKnob prog.godebug=none:=by kernel_rfl
def QoL:laidOutB prog=true:=by kernel_rfl
def QIc(os:Os)(started:os.Started)(H:Type)(enc:TypeId × Value->H):
  ReturnsInHanded {} checked os 7 .any (Rows.topRefusedSpec.pre6 enc prog f7 Rows.topRefusedRow.domain false) (Rows.topRefusedSpec.post enc prog f7 false true false false):=by
 refine returnsInHanded_of_change (C:=checked) QIb started (by kernel_rfl) func7
  (ChangeSpec.witness6 (enc:=enc) (C:=checked) false ⟨#[],#[.agg #[.int .i64 0,.int .i64 0,.slice none 0 0],.agg #[.int .i64 0,.slice none 0 0,.slice none 0 0,.int .u64 0,.int .i64 0,.int .u16 0,.int .u16 0,.int .u16 0,.int .u16 0,.int .u64 0]],[]⟩ 12 (by kernel_rfl) (by kernel_rfl) (by kernel_rfl) (by kernel_rfl)) ?_
 intro W base args ds gs before vC hW dh _;have zk:∀(j:Nat) t v,f7.params[j]? = some t->args[j]? = some v->Value.okWide prog W .any base t v:=vC;have DW:=hW;obtain⟨p,q,vD,hV,rfl,yD,ZY⟩:=hW;have hA:DataW.TrodAll enc prog W 0 (λ_=>true) true f7.params.toList args.toList ds p:=vD;rw[params7]at hA zk;obtain⟨v0,dt,d0,dw,p0,q0,Gj,rfl,rfl,h0,r0⟩:=trodAll_cons hA;obtain⟨v1,vs1,d1,ds1,p1,q1,rfl,rfl,rfl,h1,r1⟩:=trodAll_cons r0;obtain⟨rfl,rfl,rfl⟩:=trodAll_nil r1;obtain rfl:args=#[v0,v1]:=by cases args;simp_all
 obtain⟨rfl,rfl⟩:=trodVars_none hV;obtain⟨DX,rfl,_⟩:=okWide_struct underlying26 (zk 0 26 v0 rfl rfl);obtain⟨r8,rfl,_⟩:=okWide_struct underlying45 (zk 1 45 v1 rfl rfl);have t0:=h0;have DY:∀x∈p0,x.block<W.heap.size:=by obtain⟨m,hm⟩:=t0;exact DataW.trod_lt m _ _ _ hm
 have t1:=h1;have dJ:∀x∈p1,x.block<W.heap.size:=by obtain⟨m,hm⟩:=t1;exact DataW.trod_lt m _ _ _ hm
 obtain⟨x0,k0,c0⟩:=Rd.many P5 h0;obtain⟨x1,k1,c1⟩:=Rd.many Qim h1;clear vD vC;have walk:Calls prog 7 #[.agg DX,.agg r8] W λe W'=>e=.returned (.bool true)/\Below W.heap.size W W':=P4 (QH4 x0 x1 k0.2.1.2 k1) W [_,_] rfl (λi hi=>match i,hi with
  | 0,_=>c0
  | 1,_=>c1)
 refine walk.mono λe W' ⟨he,VI⟩=>?_;subst he;exact⟨_,rfl,_,_,_,[],_,[],DW,trodAll_mk1 (shut_bool underlying4 _),(trodAll_cons_mk (Below.trod QoL (by kernel_rfl) (Wc (by kernel_rfl)) t0 VI DY) (trodAll_cons_mk (Below.trod QoL (by kernel_rfl) (Wc (by kernel_rfl)) t1 VI dJ) trodAll_mk0)),rfl,VI.frame _,λh=>by cases h⟩
def jn{a b}(ha:a=true)(hb:b=true):(a&&b)=true:=by rw[ha,hb];rfl
def QId:(Rows.topRefusedRow.inPlace==prog.inPlace 7)=true:=by kernel_rfl
def QIe:(Rows.topRefusedRow.unfollowed==prog.unfollowed 7)=true:=by kernel_rfl
def QIf:(Rows.topRefusedRow.recurses==prog.recurses 7)=true:=by kernel_rfl
def QIg:(Rows.topRefusedRow.named==prog.varsNamed 7)=true:=by kernel_rfl
def QIh:(Rows.topRefusedRow.maps==(f7.params.toList++Rows.topRefusedSpec.plain.varTypes prog).any (prog.mapsRec ·))=true:=by kernel_rfl
def QIi:(Rows.topRefusedRow.ifaces==(f7.params.toList++Rows.topRefusedSpec.plain.varTypes prog).any (prog.ifacesRec ·))=true:=by kernel_rfl
def QIj:(Rows.topRefusedRow.loops==(f7.params.toList++Rows.topRefusedSpec.plain.varTypes prog).any (prog.loopsFrom ·))=true:=by kernel_rfl
def QIk:joinedFacts prog 7 f7 Rows.topRefusedSpec Rows.topRefusedRow=true:=by
 unfold joinedFacts;refine(jn (jn (jn (jn (jn (jn (jn (jn (jn (jn (jn (jn (jn (jn (jn (jn (jn (jn (jn (jn (jn (jn (jn (jn (jn (jn (jn (jn (jn (jn (jn ?_ QH5) QH6) ?_) ?_) ?_) ?_) ?_) ?_) QId) QIe) QIf) QIg) QIh) QIi) ?_) QIj) ?_) ?_) ?_) ?_) ?_) ?_) ?_) QH7) QH8) QH9) QIa) ?_) ?_) ?_) ?_);all_goals kernel_rfl
def QIl:prog.funcNamed Rows.topRefusedRow.func=some 7:=by kernel_rfl
theorem provedTopRefused:Rows.TopRefusedSaid:=
 OpenClaim.holds_of_wide 7 f7 rfl rfl rfl rfl rfl rfl rfl ⟨rfl,rfl,rfl,rfl,rfl⟩ rfl rfl rfl rfl rfl QIl func7 QIk
  (Wc (by kernel_rfl)) (by unfold Func.isWrapper;first|(rw[Qf (by decide +kernel)];kernel_rfl)|(rw[Qd (by decide +kernel)];exact⟨rfl,rfl⟩))
  (λos started H enc _=>QIc os started H enc)
end Go.Fg.X
namespace Go.Proofs.YtagebhlinnibkaaGreat
theorem topRefused_done: Rows.TopRefusedSaid := Go.Fg.X.provedTopRefused
end Go.Proofs.YtagebhlinnibkaaGreat
