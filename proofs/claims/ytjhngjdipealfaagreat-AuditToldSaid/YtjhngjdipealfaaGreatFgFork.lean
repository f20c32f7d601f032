/- Contracts and laws on the way to the statement. No conditions. -/
import Derived.Test.YtjhngjdipealfaaGreatFgHx
import Derived.Test.YtjhngjdipealfaaGreatFgHeap
import Derived.Shelf.SlMaps.Clone
set_option maxRecDepth 100000
set_option maxHeartbeats 16000000
set_option linter.unusedVariables false
set_option linter.unusedSimpArgs false
set_option linter.unusedSectionVars false
set_option linter.defProp false
namespace Go.Fg.X
open Go.Proofs Go.Fg
open Go.Proofs.Tryz
def ij{h}{loc}{it}{l r:Tr}{le}{hi n}(i:Raw h loc it l r le hi n)(nd:(loc::(l.QJ++r.QJ)).Nodup)(hs:l.size+r.size<800000):
  MFn prog 271 h [.ptr loc 0 0 0] (λd h'=>∃t',d=t'.ptr/\zw h (.node loc it l r) (l.list++it::r.list) h' t'):=by
 have vw:=nd;simp only[ZK,QT,Yr]at vw;obtain⟨⟨nl,nr⟩,nd3⟩:=vw;have hl:=l.LO;have hr:=r.LO;have el:IntKind.i64.wrap ((l.high:Int)+1)=((l.high+1:Nat):Int):=by rw[wrap64 (by omega) (by omega)];omega
 have er:IntKind.i64.wrap ((r.high:Int)+1)=((r.high+1:Nat):Int):=by rw[wrap64 (by omega) (by omega)];omega
 have h1:=i.o;refine QU Qh 200 func271 rfl ntmps271 results271 rfl λbase w pl hb=>?_;have QG:=Qc h1;simp only[go_sem,Qa,h1,QG];refine Jl hb Bv (BC (loc:=loc) i (by omega) (by omega) nl nr) λd h2 hR=>?_;have hlen:h2.length=h.length:=by rw[hR];simp
 have t2:KC h2 (.node loc it l r):=by
  rw[hR];exact⟨Qv QG,i.il.set _ nl,i.ir.set _ nr⟩
 have k2:∀k,k≠loc->h2[k]? = h[k]? := λk hk=>by rw[hR,Qi (Q3 hk)]
 clear hR;have u2:zw h (.node loc it l r) (Tr.node loc it l r).list h2 (.node loc it l r):=⟨t2,rfl,nd,λ_ h=>.inl h,λk _ hn=>k2 k λe=>hn (by rw[e];simp[Tr.QJ]),by omega⟩;have h3:=t2.1;have Zz:=Qc h3;refine Qf hb ?_;simp only[go_sem,Qa,h3,Zz];refine vv 2 ?_;refine Qf hb ?_;simp only[go_sem,Qa,h3,Zz];apply QH hb [0,2,3,4,5,6,7,8,1001,1009,10,11];simp only[go_sem,Qa,h3,Zz];refine XO hb jo (jv t2.2.1.toR) λd hR=>?_;subst hR;refine Zb hb ?_;simp only[go_sem,Qa,h3,Zz];refine Wv hb jo rfl ?_ (jv t2.2.2.toR) rfl λd hR=>?_
 ·simp only[go_sem,Qa,h3,Zz,er]
 subst hR;refine Zb hb ?_;simp only[go_sem,Qa,h3,Zz,er];by_cases c0:l.high<=r.high+1
 ·have d0:=Q7 c0;simp only[go_sem,Qa,d0];refine Qf hb ?_;simp only[go_sem,Qa,h3,Zz];apply QH hb [0,2,3,4,5,6,7,8,1001,1009,10,11];simp only[go_sem,Qa,h3,Zz];refine XO hb jo (jv t2.2.2.toR) λd hR=>?_;subst hR;refine Zb hb ?_;simp only[go_sem,Qa,h3,Zz];refine Wv hb jo rfl ?_ (jv t2.2.1.toR) rfl λd hR=>?_
  ·simp only[go_sem,Qa,h3,Zz,el]
  subst hR;refine Zb hb ?_;simp only[go_sem,Qa,h3,Zz,el];by_cases c1:r.high<=l.high+1
  ·have d1:=Q7 c1;simp only[go_sem,Qa,d1];refine Qf hb ?_;simp only[go_sem,Qa,h3,Zz];apply ZC hb;exact⟨.node loc it l r,rfl,u2⟩
  ·have d1:=QQ c1;simp only[go_sem,Qa,d1];cases r with
   | nil=>exact absurd (JQ _) c1
   | node ly iy b a=>
    have Je:=hs;simp only[Tr.size]at Je;have h4:=t2.2.2.1;have Df:=Qc h4;have QB:loc≠ly:=by rintro rfl;simp[Tr.QJ,ZK,JF,QF,QT]at nd
    apply QH hb [0,1,2,3,4,5,6,8,9,10,11,12,13,1007,1014,15];simp only[go_sem,Qa,h3,Zz,h4,Df];refine XO hb jo (jv t2.2.2.2.1.toR) λd hR=>?_;subst hR;refine Zb hb ?_;simp only[go_sem,Qa,h3,Zz,h4,Df];refine XO hb jo (jv t2.2.2.2.2.toR) λd hR=>?_;subst hR;refine Zb hb ?_;simp only[go_sem,Qa,h3,Zz,h4,Df];by_cases c2:a.high<b.high
    ·have d2:=Q7 c2;simp only[go_sem,Qa,d2];cases b with
     | nil=>exact absurd c2 (XY _)
     | node lb ib b1 b2=>
      simp only[Tr.BB]at h4;simp only[Tr.size]at Je;have h5:=t2.2.2.2.1.1;have QtP:=Qc h5;have VC:loc≠lb:=by rintro rfl;simp[Tr.QJ,ZK,JF,QF,QT]at nd
      have xZ:ly≠lb:=by rintro rfl;simp[Tr.QJ,ZK,JF,QF,QT]at nd
      apply KL [5] hb [0,1,2,3,4,6,7,1005,8,1009] [];simp only[go_sem,Qa,h3,Zz];refine j9 hb LD (ie (lx:=ly) (ly:=lb) (a:=b1) (b:=b2) (c:=a) h4 h5 t2.2.2.2.1.2.1 t2.2.2.2.1.2.2 t2.2.2.2.2 (by simp only[Tr.QJ,ZK,JF,QF,QT]at nd ⊢;grind) (by omega)) λd h6 hR=>?_;obtain⟨rfl,t4,l4,k4⟩:=hR;have h7:h6[loc]? = _:=(k4 loc QB VC).trans h3;have vz:=Qc h7;refine Zb hb ?_;simp only[go_sem,Qa,h7,vz];have tr:KC h6 l:=t2.2.1.frame λk hk=>k4 k (by rintro rfl;simp only[Tr.QJ,ZK,JF,QF,QT]at nd;grind) (by rintro rfl;simp only[Tr.QJ,ZK,JF,QF,QT]at nd;grind);apply ZC hb;refine Jl hb LD (ig (lx:=loc) (ly:=lb) (a:=l) (b:=b1) (c:=.node ly iy b2 a) (Qv vz) ((Qi VC).trans t4.1) (tr.set _ nl) (t4.2.1.set _ (by simp only[Tr.QJ,ZK,JF,QF,QT]at nd ⊢;grind)) (t4.2.2.set _ (by simp only[Tr.QJ,ZK,JF,QF,QT]at nd ⊢;grind)) (by simp only[Tr.QJ,ZK,JF,QF,QT]at nd ⊢;grind) (by simp only[Tr.size];omega)) λd h8 hR=>?_;obtain⟨rfl,t8,l8,k8⟩:=hR;apply ZC hb;refine⟨(.node lb ib (.node loc it l b1) (.node ly iy b2 a)),rfl,u2.trans ⟨t8,by simp[Tr.list],by simp only[Tr.QJ,ZK,JF,QF,QT]at nd ⊢;grind,λk hk=>.inl (by simp only[Tr.QJ,QF,QT]at hk ⊢;grind),λk _ hk=>?_,by rw[l8,Ki,l4];exact QD _⟩⟩;simp only[Tr.QJ,QF,QT,Yr]at hk;rw[k8 k (by grind) (by grind),Qi (by grind),k4 k (by grind) (by grind)]
    ·have d2:=QQ c2;simp only[go_sem,Qa,d2];apply ZC hb;refine Jl hb LD (ig (lx:=loc) (ly:=ly) (a:=l) (b:=b) (c:=a) h3 h4 t2.2.1 t2.2.2.2.1 t2.2.2.2.2 (by simp only[Tr.QJ,ZK,JF,QF,QT]at nd ⊢;grind) (by omega)) λd h8 hR=>?_;obtain⟨rfl,t8,l8,k8⟩:=hR;apply ZC hb;refine⟨(.node ly iy (.node loc it l b) a),rfl,u2.trans ⟨t8,by simp[Tr.list],by simp only[Tr.QJ,ZK,JF,QF,QT]at nd ⊢;grind,λk hk=>.inl (by simp only[Tr.QJ,QF,QT]at hk ⊢;grind),λk _ hk=>?_,by rw[l8];exact QD _⟩⟩;simp only[Tr.QJ,QF,QT,Yr]at hk;exact k8 k (by grind) (by grind)
 ·have d0:=QQ c0;simp only[go_sem,Qa,d0];cases l with
  | nil=>exact absurd (JQ _) c0
  | node ly iy a b=>
   have Je:=hs;simp only[Tr.size]at Je;have h4:=t2.2.1.1;have Df:=Qc h4;have QB:loc≠ly:=by rintro rfl;simp[Tr.QJ,ZK,JF,QF,QT]at nd
   apply QH hb [0,1,2,3,4,5,6,8,9,10,11,12,13,1007,1014,15];simp only[go_sem,Qa,h3,Zz,h4,Df];refine XO hb jo (jv t2.2.1.2.2.toR) λd hR=>?_;subst hR;refine Zb hb ?_;simp only[go_sem,Qa,h3,Zz,h4,Df];refine XO hb jo (jv t2.2.1.2.1.toR) λd hR=>?_;subst hR;refine Zb hb ?_;simp only[go_sem,Qa,h3,Zz,h4,Df];by_cases c2:a.high<b.high
   ·have d2:=Q7 c2;simp only[go_sem,Qa,d2];cases b with
    | nil=>exact absurd c2 (XY _)
    | node lb ib b1 b2=>
     simp only[Tr.BB]at h4;simp only[Tr.size]at Je;have h5:=t2.2.1.2.2.1;have QtP:=Qc h5;have VC:loc≠lb:=by rintro rfl;simp[Tr.QJ,ZK,JF,QF,QT]at nd
     have xZ:ly≠lb:=by rintro rfl;simp[Tr.QJ,ZK,JF,QF,QT]at nd
     apply KL [5] hb [0,1,2,3,4,6,7,1005,8,1009] [];simp only[go_sem,Qa,h3,Zz];refine j9 hb LD (ig (lx:=ly) (ly:=lb) (a:=a) (b:=b1) (c:=b2) h4 h5 t2.2.1.2.1 t2.2.1.2.2.2.1 t2.2.1.2.2.2.2 (by simp only[Tr.QJ,ZK,JF,QF,QT]at nd ⊢;grind) (by omega)) λd h6 hR=>?_;obtain⟨rfl,t4,l4,k4⟩:=hR;have h7:h6[loc]? = _:=(k4 loc QB VC).trans h3;have vz:=Qc h7;refine Zb hb ?_;simp only[go_sem,Qa,h7,vz];have tr:KC h6 r:=t2.2.2.frame λk hk=>k4 k (by rintro rfl;simp only[Tr.QJ,ZK,JF,QF,QT]at nd;grind) (by rintro rfl;simp only[Tr.QJ,ZK,JF,QF,QT]at nd;grind);apply ZC hb;refine Jl hb LD (ie (lx:=loc) (ly:=lb) (a:=.node ly iy a b1) (b:=b2) (c:=r) (Qv vz) ((Qi VC).trans t4.1) (t4.2.1.set _ (by simp only[Tr.QJ,ZK,JF,QF,QT]at nd ⊢;grind)) (t4.2.2.set _ (by simp only[Tr.QJ,ZK,JF,QF,QT]at nd ⊢;grind)) (tr.set _ nr) (by simp only[Tr.QJ,ZK,JF,QF,QT]at nd ⊢;grind) (by simp only[Tr.size];omega)) λd h8 hR=>?_;obtain⟨rfl,t8,l8,k8⟩:=hR;apply ZC hb;refine⟨(.node lb ib (.node ly iy a b1) (.node loc it b2 r)),rfl,u2.trans ⟨t8,by simp[Tr.list],by simp only[Tr.QJ,ZK,JF,QF,QT]at nd ⊢;grind,λk hk=>.inl (by simp only[Tr.QJ,QF,QT]at hk ⊢;grind),λk _ hk=>?_,by rw[l8,Ki,l4];exact QD _⟩⟩;simp only[Tr.QJ,QF,QT,Yr]at hk;rw[k8 k (by grind) (by grind),Qi (by grind),k4 k (by grind) (by grind)]
   ·have d2:=QQ c2;simp only[go_sem,Qa,d2];apply ZC hb;refine Jl hb LD (ie (lx:=loc) (ly:=ly) (a:=a) (b:=b) (c:=r) h3 h4 t2.2.1.2.1 t2.2.1.2.2 t2.2.2 (by simp only[Tr.QJ,ZK,JF,QF,QT]at nd ⊢;grind) (by omega)) λd h8 hR=>?_;obtain⟨rfl,t8,l8,k8⟩:=hR;apply ZC hb;refine⟨(.node ly iy a (.node loc it b r)),rfl,u2.trans ⟨t8,by simp[Tr.list],by simp only[Tr.QJ,ZK,JF,QF,QT]at nd ⊢;grind,λk hk=>.inl (by simp only[Tr.QJ,QF,QT]at hk ⊢;grind),λk _ hk=>?_,by rw[l8];exact QD _⟩⟩;simp only[Tr.QJ,QF,QT,Yr]at hk;exact k8 k (by grind) (by grind)
def Pd(d):W9 d d=True:=by cases d<;>simp[W9]
def ik:∀l:List D,VL l l
 | []=>trivial
 | d::r=>⟨(Pd d).mpr trivial,ik r⟩
def QeS{h}{loc}{it:It}{l r}(i:qI h (.node loc it l r))(a)(k):Zg prog 270 h [.ptr loc 0 0 0,.agg [u64 a,Qb k]] (λd=>d=Qb (if JW it.ka it.ki a k then 1 else 0)):=by
 have h2:=i.1;have c1:=gY a k it.ka it.ki;have e1:(0<qd a k it.ka it.ki)↔JW it.ka it.ki a k:=Qtx;generalize qd a k it.ka it.ki=p at *;refine Zt Qh 200 func270 rfl ntmps270 results270 rfl λbase w pl F hF Za hb=>?_;rw[<- hF]at h2;have KE:=Qc h2;simp only[go_sem,Qa,h2,KE];apply QH hb [0,1,2,3,4,5,1006,7];simp only[go_sem,Qa,h2,KE];refine K9 hb fW c1 (Qo.flat rfl) λd h hR=>?_;obtain⟨rfl,rfl⟩:=hR;apply V6 hb;by_cases hp:0<p
 ·have d1:=Q7 hp;simp only[go_sem,Qa,d1];rw[Qg (e1.1 hp)];exact⟨_,rfl,rfl⟩
 ·have d1:=QQ hp;simp only[go_sem,Qa,d1];rw[Qd (λh=>hp (e1.2 h))];exact⟨_,rfl,rfl⟩
structure iq (dv:D) (f nf:Nat) (Qz:List D) (B:List (Nat × Ob)) (a:Nat) (k:Int) (fL:Tr->List It) (N:Nat) (Nl:Prop):Prop where
 fok:Qq prog f
 cal:J4 dv=some (f,nf,Qz)
 len:∀s,(fL s).length<=s.size+1
 run:∀(h:List Ob) (s:Tr),KC h s->s.QJ.Nodup->s.size<=N->KD s.list->(s=.nil->Nl)->(∀loc it l r,s=.node loc it l r->it.ka=a/\it.ki=k)->(∀p∈B,h[p.1]? = some p.2/\p.1 ∉ s.QJ) ->
  MFn prog f h (Jj nf Qz [s.ptr]) (λd h'=>∃s',d=s'.ptr/\zw h s (fL s) h' s')
def iu{a}{k}{fL:Tr->List It}(hf:∀s,(fL s).length<=s.size+1):∀t:Tr,(t.Aw a k fL).length<=t.size+1
 | .nil=>hf _
 | .node loc it l r=>by
  have h1:=iu (a:=a) (k:=k) hf l;have h2:=iu (a:=a) (k:=k) hf r;have h3:=hf (.node loc it l r);have h4:=Tr.As l;have h5:=Tr.As r;rw[Tr.Aw];split
  ·exact h3
  ·split
   ·simp only[ZX,Vu,Tr.size]at *;omega
   ·simp only[ZX,Vu,Tr.size]at *;omega
def KC.app{h}{t}(i:KC h t)(g):KC (h++g) t:=i.frame λl hl=>QC (i.lt l hl)
def zw.under{h g h'}{t t'}{L}(u:zw (h++g) t L h' t'):zw h t L h' t':=
 ⟨u.is,u.list,u.nd,λl hl=>by
  rcases u.mem l hl with h1|h1
  ·exact .inl h1
  ·exact .inr (by simp only[ZX]at h1;omega),λl hl hn=>by rw[u.keep l (by simp only[ZX];omega) hn,QC hl],by have:=u.len;simp only[ZX]at this;omega⟩
def Pe{dv}{f nf}{Qz}{B}{a}{k}{fL}{N}{Nl}(O:iq dv f nf Qz B a k fL N Nl)(hN:N<700000):
  ∀(t:Tr) (h:List Ob),KC h t->t.QJ.Nodup->t.size<=N->KD t.list->(t.find a k=.nil->Nl)->(∀p∈B,h[p.1]? = some p.2/\p.1 ∉ t.QJ) ->
   MFn prog 258 h [t.ptr,.agg [u64 a,Qb k],dv] (λd h'=>∃t',d=t'.ptr/\zw h t (t.Aw a k fL) h' t')
 | .nil,h,i,nd,hs,Vd,U0,hB=>by
  have hd:=O.run;have hO:=O.fok;have hc:=O.cal;refine QU Qh 200 func258 rfl ntmps258 results258 rfl λbase w pl hb=>?_;simp only[go_sem,Qa];apply QH hb [0,1,2,3,4,5,6,7,8,9,10];simp only[go_sem,Qa];refine KW hb hO hc (ik _) (hd _ .nil trivial (by simp[Tr.QJ]) (JQ _) Vd (λ_=>U0 rfl) (λ_ _ _ _ e=>by cases e) λp hp=>⟨(QC (Qc (hB p hp).1)).trans (hB p hp).1,(hB p hp).2⟩) rfl λd h2 hR=>?_;obtain⟨s',rfl,u⟩:=hR;apply ZC hb;exact⟨s',rfl,u.under⟩
 | .node loc it l r,h,i,nd,hs,Vd,U0,hB=>by
  have hd:=O.run;have hO:=O.fok;have hc:=O.cal;have h1:=i.1;have vw:=nd;simp only[Tr.QJ,ZK,QT,Yr]at vw;obtain⟨⟨nl,nr⟩,nd3⟩:=vw;have hlen:=iu (a:=a) (k:=k) O.len;obtain⟨sl,sr,_,_⟩:=Db.1 (show KD (l.list++it::r.list) from Vd);refine QU Qh 200 func258 rfl ntmps258 results258 rfl λbase w pl hb=>?_;have QG:=Qc h1;simp only[go_sem,Qa,h1,QG];apply QH hb [0,1,2,3,4,5,6,7,8,9,10];simp only[go_sem,Qa,h1,QG];by_cases e1:it.ka=a/\it.ki=k
  ·have d1:((it.ka:Int)==(a:Int)&&it.ki==k)=true:=by simp[e1.1,e1.2]
   simp only[go_sem,Qa,d1,Tr.Aw,Qg e1];refine KW hb hO hc (ik _) (hd _ (.node loc it l r) (i.app _) nd hs Vd (λe=>by cases e) (λ_ _ _ _ e=>by cases e;exact e1) λp hp=>⟨(QC (Qc (hB p hp).1)).trans (hB p hp).1,(hB p hp).2⟩) rfl λd h2 hR=>?_;obtain⟨s',rfl,u⟩:=hR;apply ZC hb;exact⟨s',rfl,u.under⟩
  have d1:((it.ka:Int)==(a:Int)&&it.ki==k)=false:=by
   rw[zT];intro hh;simp only[ZJ,zY]at hh;exact e1 ⟨by omega,hh.2⟩
  simp only[go_sem,Qa,d1,Tr.Aw,Qd e1];refine JJ hb Qd8 (QeS (i.app _).toR a k) λd hR=>?_;subst hR;refine Qf hb ?_;simp only[go_sem,Qa,h1,QG];by_cases e2:JW it.ka it.ki a k
  ·simp only[Qg e2];apply KL [10] hb [0,1,2,3,4,5,6,7,8,9,11,12,1010,13,1014] [];simp only[go_sem,Qa,h1,QG];refine wB hb OO rfl ?_ (Pe O hN r _ (i.2.2.app _) (by simp only[Tr.QJ,ZK,JF,QF,QT]at nd ⊢;grind) (by simp only[Tr.size]at hs;omega) sr (λe=>U0 (by rw[Tr.find,Qd e1,Qg e2];exact e)) λp hp=>⟨(QC (Qc (hB p hp).1)).trans (hB p hp).1,λhm=>(hB p hp).2 (by simp only[Tr.QJ,QF,QT];grind)⟩) rfl λd h6 hR=>?_
   ·simp only[go_sem,Pd]
   obtain⟨t',rfl,u⟩:=hR;have u:=u.under;have h7:h6[loc]? = _:=(u.keep loc QG (by simp only[Tr.QJ,ZK,JF,QF,QT]at nd ⊢;grind)).trans h1;have vz:=Qc h7;have ul:=u.list;have Je:=Tr.As t';rw[ul]at Je;have JA:=hlen r;have nt:loc ∉ t'.QJ:=λhm=>by
    rcases u.mem loc hm with h9|h9
    ·simp only[Tr.QJ,ZK,JF,QF,QT]at nd;grind
    ·omega
   have no:∀k∈l.QJ,k ∉ t'.QJ:=λk hk hm=>by
    have Pf:=i.2.1.lt k hk;rcases u.mem k hm with h9|h9
    ·simp only[Tr.QJ,ZK,JF,QF,QT]at nd;grind
    ·omega
   have to:KC h6 l:=i.2.1.frame λk hk=>u.keep k (i.2.1.lt k hk) (by simp only[Tr.QJ,ZK,JF,QF,QT]at nd ⊢;grind);refine Zb hb ?_;simp only[go_sem,Qa,h7,vz];apply ZC hb;refine KW hb gh rfl ?_ (ij (loc:=loc) (l:=l) (r:=t') ⟨Qv vz,to.set _ nl,u.is.set _ nt⟩ (by
    have a1:=u.nd;simp only[Tr.QJ,ZK,JF,QF,QT]at nd ⊢;grind) (by simp only[Tr.size]at hs;omega)) rfl λd h8 hR=>?_
   ·simp only[go_sem]
   obtain⟨t'',rfl,v⟩:=hR;apply ZC hb;have vl:=v.list;refine⟨t'',rfl,v.is,by rw[vl,ul],v.nd,λk hk=>?_,λk hk hn=>?_,by have q1:=v.len;have q2:=u.len;simp only[Ki]at q1;omega⟩
   ·rcases v.mem k hk with h9|h9
    ·have a2:=u.mem k;simp only[Tr.QJ,QF,QT]at h9 ⊢;grind
    ·have:=u.len;simp only[Ki]at h9;exact .inr (by omega)
   ·have a2:=u.mem k;have a3:=u.len;rw[v.keep k (by simp only[Ki];omega) (λh9=>by
     simp only[Tr.QJ,QF,QT]at h9 hn;rcases h9 with h9|h9|h9
     ·exact hn (.inl h9)
     ·exact hn (.inr (.inl h9))
     ·rcases a2 h9 with YW|YW
      ·exact hn (.inr (.inr YW))
      ·omega),Qi (λh9=>hn (by rw[h9];simp[Tr.QJ])),u.keep k hk (λh9=>hn (by simp only[Tr.QJ,QF,QT];grind))]
  ·simp only[Qd e2];apply KL [10] hb [0,1,2,3,4,5,6,7,8,9,11,12,1010,13,1014] [];simp only[go_sem,Qa,h1,QG];refine wB hb OO rfl ?_ (Pe O hN l _ (i.2.1.app _) (by simp only[Tr.QJ,ZK,JF,QF,QT]at nd ⊢;grind) (by simp only[Tr.size]at hs;omega) sl (λe=>U0 (by rw[Tr.find,Qd e1,Qd e2];exact e)) λp hp=>⟨(QC (Qc (hB p hp).1)).trans (hB p hp).1,λhm=>(hB p hp).2 (by simp only[Tr.QJ,QF,QT];grind)⟩) rfl λd h6 hR=>?_
   ·simp only[go_sem,Pd]
   obtain⟨t',rfl,u⟩:=hR;have u:=u.under;have h7:h6[loc]? = _:=(u.keep loc QG (by simp only[Tr.QJ,ZK,JF,QF,QT]at nd ⊢;grind)).trans h1;have vz:=Qc h7;have ul:=u.list;have Je:=Tr.As t';rw[ul]at Je;have JA:=hlen l;have nt:loc ∉ t'.QJ:=λhm=>by
    rcases u.mem loc hm with h9|h9
    ·simp only[Tr.QJ,ZK,JF,QF,QT]at nd;grind
    ·omega
   have no:∀k∈r.QJ,k ∉ t'.QJ:=λk hk hm=>by
    have Pf:=i.2.2.lt k hk;rcases u.mem k hm with h9|h9
    ·simp only[Tr.QJ,ZK,JF,QF,QT]at nd;grind
    ·omega
   have to:KC h6 r:=i.2.2.frame λk hk=>u.keep k (i.2.2.lt k hk) (by simp only[Tr.QJ,ZK,JF,QF,QT]at nd ⊢;grind);refine Zb hb ?_;simp only[go_sem,Qa,h7,vz];apply ZC hb;refine KW hb gh rfl ?_ (ij (loc:=loc) (l:=t') (r:=r) ⟨Qv vz,u.is.set _ nt,to.set _ nr⟩ (by
    have a1:=u.nd;simp only[Tr.QJ,ZK,JF,QF,QT]at nd ⊢;grind) (by simp only[Tr.size]at hs;omega)) rfl λd h8 hR=>?_
   ·simp only[go_sem]
   obtain⟨t'',rfl,v⟩:=hR;apply ZC hb;have vl:=v.list;refine⟨t'',rfl,v.is,by rw[vl,ul],v.nd,λk hk=>?_,λk hk hn=>?_,by have q1:=v.len;have q2:=u.len;simp only[Ki]at q1;omega⟩
   ·rcases v.mem k hk with h9|h9
    ·have a2:=u.mem k;simp only[Tr.QJ,QF,QT]at h9 ⊢;grind
    ·have:=u.len;simp only[Ki]at h9;exact .inr (by omega)
   ·have a2:=u.mem k;have a3:=u.len;rw[v.keep k (by simp only[Ki];omega) (λh9=>by
     simp only[Tr.QJ,QF,QT]at h9 hn;rcases h9 with h9|h9|h9
     ·exact hn (.inl h9)
     ·rcases a2 h9 with YW|YW
      ·exact hn (.inr (.inl YW))
      ·omega
     ·exact hn (.inr (.inr h9))),Qi (λh9=>hn (by rw[h9];simp[Tr.QJ])),u.keep k hk (λh9=>hn (by simp only[Tr.QJ,QF,QT];grind))]
def vA(t:Tr):Ob:=⟨.one,0,1,1,λ_=>[t.ptr]⟩
attribute [go_sem] vA
def QeV{h:List Ob}{tl}{t:Tr}(ht:(h.map Ob.ro)[tl]? = some (vA t).ro)(i:qI h t)(a)(k):
  Zg prog 257 h [.ptr tl 0 0 0,.agg [u64 a,Qb k]] (λd=>d=(t.find a k).ptr):=by
 refine Zt Qh 200 func257 rfl ntmps257 results257 rfl λbase w pl F hF Za hb=>?_;rw[<- hF]at ht;have Zi:=Qc ht;simp only[go_sem,Qa,ht,Zi];refine ZZ (λj st=>∃s:Tr,s.size+j<=t.size/\qI h s/\s.find a k=t.find a k/\st=⟨[(3,.ptr F.length 0 0 0),(5,s.ptr)],F++[⟨.one,0,2,1,λ_=>[u64 a,Qb k]⟩]⟩) t.size (s0:=⟨[(3,.ptr F.length 0 0 0),(5,t.ptr)],F++[⟨.one,0,2,1,λ_=>[u64 a,Qb k]⟩]⟩) ?_ ⟨t,by omega,i,rfl,rfl⟩ ?_
 ·exact QO
 rintro j _ hj ⟨s,hs,is,hf,rfl⟩;cases s with
 | nil=>
  apply Q1 hb;apply QH hb [0,1,2,3,4,5,6,7,8,9,10];simp only[go_sem,Qa,Go.undef];apply ZC hb;exact⟨_,rfl,by rw[<- hf];rfl⟩
 | node loc it l r=>
  have h3:=is.1;rw[<- hF]at h3;have Zz:=Qc h3;apply Q1 hb;apply QH hb [0,1,2,3,4,5,6,7,8,9,10];simp only[go_sem,Qa,h3,Zz];rw[Tr.find]at hf;by_cases e1:it.ka=a/\it.ki=k
  ·have d1:((it.ka:Int)==(a:Int)&&it.ki==k)=true:=by simp[e1.1,e1.2]
   rw[Qg e1]at hf;simp only[go_sem,Qa,d1,bne];refine Qf hb ?_;simp only[go_sem,Zz];exact⟨_,rfl,by rw[<- hf];rfl⟩
  ·have d1:((it.ka:Int)==(a:Int)&&it.ki==k)=false:=by
    rw[zT];intro hh;simp only[ZJ,zY]at hh;exact e1 ⟨by omega,hh.2⟩
   rw[Qd e1]at hf;simp only[go_sem,Qa,d1,bne];apply QH hb [0,1,2,4,5,1003,6,7,8];simp only[go_sem,Qa,h3,Zz];refine XO hb Qd8 (QeS (is.more (Fm hF)) a k) λd hR=>?_;subst hR;refine Zb hb ?_;simp only[go_sem,Qa,h3,Zz];have Je:l.size+j+1<=t.size/\r.size+j+1<=t.size:=by simp only[Tr.size]at hs;omega
   by_cases e2:JW it.ka it.ki a k
   ·rw[Qg e2]at hf;simp only[go_sem,Qa,Qg e2,h3,Zz];refine⟨by omega,_,QO,r,by omega,is.2.2,hf,rfl⟩
   ·rw[Qd e2]at hf;simp only[go_sem,Qa,Qd e2,h3,Zz];refine⟨by omega,_,QO,l,by omega,is.2.1,hf,rfl⟩
def QtQ{h:List Ob}{lk lv}{x:It}(hk:h[lk]? = some ⟨.one,0,2,1,λ_=>[u64 x.ka,Qb x.ki]⟩)(hv:h[lv]? = some ⟨.one,0,2,1,λ_=>[u64 x.va,Qb x.vi]⟩)(s):
  MFn prog 259 h [s.ptr,.ptr lk 0 0 0,.ptr lv 0 0 0] (λd h'=>∃s',d=s'.ptr/\zw h s [x] h' s'):=by
 refine QU Qh 200 func259 rfl ntmps259 results259 rfl λbase w pl hb=>?_;have QtR:=Qc hk;have QtS:=Qc hv;simp only[go_sem,Qa,hk,QtR,hv,QtS];refine Jl hb Bv (BC (loc:=h.length) (it:=x) (l:=.nil) (r:=.nil) (le:=⟨0,0,0,0⟩) (hi:=0) (n:=0) ⟨Ko rfl,trivial,trivial⟩ (by simp[Tr.size]) (by simp[Tr.size]) (by simp[Tr.QJ]) (by simp[Tr.QJ])) λd h2 hR=>?_;apply ZC hb;refine⟨.node h.length x .nil .nil,rfl,⟨?_,trivial,trivial⟩,rfl,by simp[Tr.QJ],λl hl=>.inr (by simp[Tr.QJ]at hl;omega),λl hl _=>?_,by rw[hR];simp⟩
 ·rw[hR,Qv (by simp)]
 ·rw[hR,Qi (by omega),QC hl]
structure x5 (h:List Ob) (tl:Nat) (t:Tr) (L:List It):Prop where
 o:h[tl]? = some (vA t)
 is:KC h t
 list:t.list=L
 nd:t.QJ.Nodup
 out:tl ∉ t.QJ
 sorted:KD L
structure Pg (h:List Ob) (tl:Nat) (t:Tr) (L:List It) (h':List Ob) (t':Tr):Prop where
 is:x5 h' tl t' L
 mem:∀l∈t'.QJ,l∈t.QJ\/h.length<=l
 keep:∀l,l<h.length->l≠tl->l ∉ t.QJ->h'[l]? = h[l]?
 len:h.length<=h'.length
def x5.app{h}{tl}{t}{L}(a:x5 h tl t L)(g):x5 (h++g) tl t L:=⟨(QC (Qc a.o)).trans a.o,a.is.app g,a.list,a.nd,a.out,a.sorted⟩
def x5.to{h g h2:List Ob}{tl}{t t'}{L L'}(a:x5 h tl t L)(u:zw (h++g) t L' h2 t')(hs:KD L'):Pg h tl t L' (h2.set tl (vA t')) t':=by
 have v:=u.under;have hl:=Qc a.o;have h1:h2[tl]? = some (vA t):=(v.keep tl hl a.out).trans a.o;have nt:tl ∉ t'.QJ:=λhm=>by
  rcases v.mem tl hm with h3|h3
  ·exact a.out h3
  ·omega
 exact⟨⟨Qv (Qc h1),v.is.set _ nt,v.list,v.nd,nt,hs⟩,v.mem,λl h3 h4 h5=>by rw[Qi (Q3 h4)];exact v.keep l h3 h5,by rw[Ki];exact v.len⟩
def Ph{h}{tl}{t}{L:List It}(A:x5 h tl t L)(x:It)(hf:XL x.ka x.ki L=none)(hs:L.length<600000):
  MFn prog 220 h [.ptr tl 0 0 0,.agg [u64 x.ka,Qb x.ki],.agg [u64 x.va,Qb x.vi]] (λd h'=>d=Qb 0/\∃t',Pg h tl t (Xu x L) h' t'):=by
 have h1:=A.o;have hl:t.size=L.length:=by rw[<- Tr.As,A.list]
 have iv:(t.find x.ka x.ki)=.nil:=by
  have h2:=Tr.O3 (a:=x.ka) (i:=x.ki) t (by rw[A.list];exact A.sorted);rw[A.list,hf]at h2;cases hc:t.find x.ka x.ki with
  | nil=>rfl
  | node a b c d=>rw[hc]at h2;cases h2
 have cf:=λg=>QeV (h:=h++g) (ZM (A.app g).o) (A.is.app g).toR x.ka x.ki;rw[iv]at cf;refine QU Qh 200 func220 rfl ntmps220 results220 rfl λbase w pl hb=>?_;have QG:=Qc h1;simp only[go_sem,Qa,h1,QG];refine JJ hb Qd4 (cf _) λd hR=>?_;subst hR;refine Qf hb ?_;simp only[go_sem,Qa,h1,QG];apply KL [7] hb [0,1,2,3,4,5,6,1007,8,9,1010] [];simp only[go_sem,Qa,h1,QG];have O:iq (.clo 259 0 [.ptr h.length 0 0 0,.ptr (h.length+1) 0 0 0]) 259 0 [.ptr h.length 0 0 0,.ptr (h.length+1) 0 0 0] [(h.length,⟨.one,0,2,1,λ_=>[u64 x.ka,Qb x.ki]⟩),(h.length+1,⟨.one,0,2,1,λ_=>[u64 x.va,Qb x.vi]⟩)] x.ka x.ki (λ_=>[x]) 600000 True:=
  ⟨Qsp,rfl,λs=>by simp,λh' s i2 vw Jk _ _ _ hB=>by
   have b1:=(hB (h.length,_) (Va ..)).1;have b2:=(hB (h.length+1,_) (Ks _ (Va ..))).1;exact QtQ (x:=x) b1 b2 s⟩
 refine j9 hb OO (Pe O (by decide) t _ (A.is.app _) A.nd (by omega) (by rw[A.list];exact A.sorted) (λ_=>trivial) ?_) λd h6 hR=>?_
 ·intro p hp;have hm:∀q,h.length<=q->q ∉ t.QJ:=λq hq hm=>by have:=A.is.lt q hm;omega
  simp only[QF,List.not_mem_nil,or_false]at hp;rcases hp with rfl|rfl
  ·exact⟨Ko rfl,hm _ (QD _)⟩
  ·exact⟨KX rfl,hm _ (by show h.length<=h.length+1;omega)⟩
 obtain⟨t',rfl,u⟩:=hR;rw[gQ rfl t (by rw[A.list];exact A.sorted) (by rw[A.list];exact hf),A.list]at u;have h2:=(u.under.keep tl QG A.out).trans A.o;have KE:=Qc h2;refine Zb hb ?_;simp only[go_sem,Qa,h2,KE];exact⟨t',A.to u (gP A.sorted hf)⟩
def Tr.QtT:∀t:Tr,t≠.nil->∃rest,t.list=t.Dc::rest:=λt h=>by
 have h1:=Tr.gS t h;cases hl:t.list with
 | nil=>rw[hl]at h1;cases h1
 | cons a b=>rw[hl]at h1;simp only[List.head?_cons,QV]at h1;exact⟨b,by rw[h1]⟩
def QtU{x:It}{L}:XL x.ka x.ki (x::L)=some x:=by
 unfold XL;rw[kJ,vu.2 ⟨rfl,rfl⟩]
def QtV{x:It}{L}(hs:KD (x::L)):WM x.ka x.ki (x::L)=L:=by
 have h:=QeL x.ka x.ki [] L x hs;rw[Qg ⟨rfl,rfl⟩]at h;exact h
def QeW(N:Nat):Prop:=∀(h:List Ob) (s:Tr),KC h s->s.QJ.Nodup->s.size<=N->KD s.list->s≠.nil ->
 MFn prog 269 h [s.ptr] (λd h'=>∃s',d=s'.ptr/\zw h s s.Hh h' s')
def QeX{N}(W:QeW N)(a)(k):iq (.raw (.func (.func 269) #[] #[])) 269 0 [] [] a k Tr.Hh N False:=
 ⟨Qss,rfl,λs=>by
  cases s with
  | nil=>simp[Tr.Hh]
  | node loc it l r=>simp only[Tr.Hh,ZX,Tr.As,Tr.size];omega,λh s i nd hs Vd hn _ _=>W h s i nd hs Vd λe=>hn e⟩
def QeY:∀N,N<600000->QeW N
 | 0,_,_,.nil,_,_,_,_,hn=>absurd rfl hn
 | 0,_,_,.node _ _ _ _,_,_,hs,_,_=>by simp only[Tr.size]at hs;omega
 | _+1,_,_,.nil,_,_,_,_,hn=>absurd rfl hn
 | N+1,hN,h,.node loc it l .nil,i,nd,hs,Vd,_=>by
  have h1:=i.1;refine QU Qh 200 func269 rfl ntmps269 results269 rfl λbase w pl hb=>?_;have QG:=Qc h1;simp only[go_sem,Qa,h1,QG];refine⟨l,rfl,?_⟩;have u:=zw.refl i.2.1 (t:=l) (by simp only[Tr.QJ,ZK,JF]at nd;exact nd.2.1);simp only[Tr.Hh,Tr.list,Zd];exact⟨u.is,rfl,u.nd,λx hx=>.inl (by simp[Tr.QJ,hx]),λ_ _ _=>rfl,QD _⟩
 | N+1,hN,h,.node loc it l (.node lr ir rl rr),i,nd,hs,Vd,_=>by
  have h1:=i.1;refine QU Qh 200 func269 rfl ntmps269 results269 rfl λbase w pl hb=>?_;have QG:=Qc h1;simp only[go_sem,Qa,h1,QG];have vw:=nd;simp only[Tr.QJ,ZK,JF,QF,QT,Yr]at vw;generalize hr:Tr.node lr ir rl rr=r at *;have hrn:r≠.nil:=by rw[<- hr];simp
  have hrp:D.ptr lr 0 0 0=r.ptr:=by rw[<- hr];rfl
  rw[hrp];refine ZZ (λj st=>∃s:Tr,s.size+j<=r.size/\s≠.nil/\KC h s/\s.Dc=r.Dc/\(∀x∈s.QJ,x∈r.QJ)/\st=⟨[(0,.ptr loc 0 0 0),(3,s.ptr)],h⟩) r.size (s0:=⟨[(0,.ptr loc 0 0 0),(3,r.ptr)],h⟩) QO ⟨r,by omega,hrn,i.2.2,rfl,λ_ hx=>hx,rfl⟩ ?_;rintro j _ hj ⟨s,zx,yV,is,hf,Wl,rfl⟩;rcases s with _|⟨ls,im,sl,sr⟩
  ·exact absurd rfl yV
  have h3:=is.1;have Zz:=Qc h3;rcases sl with _|⟨a1,a2,a3,a4⟩
  ·have qg:ls∈r.QJ:=Wl ls (by simp[Tr.QJ]);have QB:loc≠ls:=by rintro rfl;simp only[Tr.QJ,ZK,JF,QF,QT]at nd;grind
   have nl:loc ∉ l.QJ:=by simp only[Tr.QJ,ZK,JF,QF,QT]at nd;grind
   have nr:loc ∉ r.QJ:=by simp only[Tr.QJ,ZK,JF,QF,QT]at nd;grind
   have Z2:=Qi (h:=h) (o:=Da im l.ptr r.ptr (Tr.node loc it l r).least ((Tr.node loc it l r).high:Nat) ((Tr.node loc it l r).size:Nat)) QB;obtain⟨s1,s2,s3,s4⟩:=Db.1 (show KD (l.list++it::r.list) from Vd);obtain⟨rest,JR⟩:=Tr.QtT r hrn;have Hi:r.Dc=im:=by rw[<- hf];rfl
   rw[Hi]at JR;have iv:r.find im.ka im.ki=.nil->False:=λe=>by
    have h5:=Tr.O3 (a:=im.ka) (i:=im.ki) r s2;rw[e,JR,QtU]at h5;cases h5
   have ndr:r.QJ.Nodup:=by simp only[Tr.QJ,ZK,JF,QF,QT]at nd;grind
   refine Qf hb ?_;simp only[go_sem,Qa,h3,Zz];refine Qf hb ?_;simp only[go_sem,Qa,h1,QG,h3,Zz];apply KL [11] hb [0,1,2,3,4,5,6,7,8,9,10,12,13,1011,14,1015] [];simp only[go_sem,Qa,h1,QG,Qv QG,Qi QB,h3];refine wB hb OO rfl ?_ (Pe (QeX (QeY N (by omega)) im.ka im.ki) (by omega) r _ (i.2.2.set _ nr) ndr (by simp only[Tr.size]at hs;omega) s2 iv (λp hp=>by cases hp)) rfl λd h6 hR=>?_
   ·simp only[go_sem,Pd]
   obtain⟨t',rfl,u⟩:=hR;rw[UX r s2,JR,QtV (by rw[<- JR];exact s2)]at u;have h7:=(u.keep loc (by simpa using QG) nr).trans (Qv QG);have vz:=Qc h7;have nt:loc ∉ t'.QJ:=λhm=>by
    rcases u.mem loc hm with h9|h9
    ·exact nr h9
    ·simp only[Ki]at h9;omega
   have no:∀k∈l.QJ,k ∉ t'.QJ:=λk hk hm=>by
    have Pf:=i.2.1.lt k hk;rcases u.mem k hm with h9|h9
    ·simp only[Tr.QJ,ZK,JF,QF,QT]at nd;grind
    ·simp only[Ki]at h9;omega
   have to:KC h6 l:=(i.2.1.set _ nl).frame λk hk=>u.keep k (by simpa using i.2.1.lt k hk) (by simp only[Tr.QJ,ZK,JF,QF,QT]at nd ⊢;grind);refine Zb hb ?_;simp only[go_sem,Qa,h7,vz];apply ZC hb;have ul:=u.list;have Je:=Tr.As t';rw[ul]at Je;have zf:=Tr.As r;rw[JR,Vu]at zf;refine KW hb gh rfl ?_ (ij (loc:=loc) (l:=l) (r:=t') (it:=im) ⟨Qv vz,to.set _ nl,u.is.set _ nt⟩ (by
    have a1:=u.nd;simp only[Tr.QJ,ZK,JF,QF,QT]at nd ⊢;grind) (by simp only[Tr.size]at hs;omega)) rfl λd h8 hR=>?_
   ·simp only[go_sem]
   obtain⟨t'',rfl,v⟩:=hR;apply ZC hb;have vl:=v.list;refine⟨t'',rfl,v.is,by rw[vl,ul,Tr.Hh,JR],v.nd,λk hk=>?_,λk hk hn=>?_,by have q1:=v.len;have q2:=u.len;simp only[Ki]at q1 q2;omega⟩
   ·have q2:=u.len;rcases v.mem k hk with h9|h9
    ·have a2:=u.mem k;simp only[Tr.QJ,QF,QT,Ki]at h9 a2 ⊢;grind
    ·simp only[Ki]at h9 q2;exact .inr (by omega)
   ·have a2:=u.mem k;have a3:=u.len;simp only[Ki]at a2 a3;rw[v.keep k (by simp only[Ki];omega) (λh9=>by
     simp only[Tr.QJ,QF,QT]at h9 hn;rcases h9 with h9|h9|h9
     ·exact hn (.inl h9)
     ·exact hn (.inr (.inl h9))
     ·rcases a2 h9 with YW|YW
      ·exact hn (.inr (.inr YW))
      ·omega),Qi (λh9=>hn (by rw[h9];simp[Tr.QJ])),u.keep k (by simpa using hk) (λh9=>hn (by simp only[Tr.QJ,QF,QT];grind)),Qi (λh9=>hn (by rw[h9];simp[Tr.QJ]))]
  ·refine Qf hb ?_;simp only[go_sem,Qa,h3,Zz];refine⟨by simp only[Tr.size]at zx;omega,_,QO,.node a1 a2 a3 a4,by simp only[Tr.size]at zx ⊢;omega,by simp,is.2.1,by rw[<- hf];rfl,λx hx=>Wl x (by rw[Tr.QJ];simp[hx]),rfl⟩
@[go_sem] def iw(o:Option It):D:=.tup [.agg (o.getD default).cells,QY o.isSome]
def iz{h}{tl}{t}{L:List It}(A:x5 h tl t L)(a)(k)(hf:XL a k L≠none)(hs:L.length<500000):
  MFn prog 256 h [.ptr tl 0 0 0,.agg [u64 a,Qb k]] (λd h'=>d=Qb 0/\∃t',Pg h tl t (WM a k L) h' t'):=by
 have h1:=A.o;have hl:t.size=L.length:=by rw[<- Tr.As,A.list]
 have h2:=Tr.O3 (a:=a) (i:=k) t (by rw[A.list];exact A.sorted);rw[A.list]at h2;have cf:=λg=>QeV (h:=h++g) (ZM (A.app g).o) (A.is.app g).toR a k;cases hc:t.find a k with
 | nil=>rw[hc]at h2;exact absurd h2.symm hf
 | node b1 b2 b3 b4=>
  rw[hc]at cf;refine QU Qh 200 func256 rfl ntmps256 results256 rfl λbase w pl hb=>?_;have QG:=Qc h1;simp only[go_sem,Qa,h1,QG];refine JJ hb Qd4 (cf _) λd hR=>?_;subst hR;refine Qf hb ?_;simp only[go_sem,Qa,h1,QG];apply KL [6] hb [0,1,2,3,4,5,1006,7,8,1009] [];simp only[go_sem,Qa,h1,QG];refine wB hb OO rfl ?_ (Pe (QeX (QeY 500000 (by decide)) a k) (by decide) t _ (A.is.app _) A.nd (by omega) (by rw[A.list];exact A.sorted) (λe=>by rw[hc]at e;cases e) (λp hp=>by cases hp)) rfl λd h6 hR=>?_
  ·simp only[go_sem,Pd]
  obtain⟨t',rfl,u⟩:=hR;rw[UX t (by rw[A.list];exact A.sorted),A.list]at u;have h2:=(u.under.keep tl QG A.out).trans A.o;have KE:=Qc h2;refine Zb hb ?_;simp only[go_sem,Qa,h2,KE];exact⟨t',A.to u (QtB A.sorted)⟩
section
variable {h:List Ob}{tl:Nat}{t:Tr}(ht:(h.map Ob.ro)[tl]? = some (vA t).ro)(i:qI h t)
include ht i
theorem Qe0:Zg prog 181 h [.ptr tl 0 0 0] (λd=>d=Qb t.size):=by
 refine Zt Qh 200 func181 rfl ntmps181 results181 rfl λbase w pl F hF Za hb=>?_;rw[<- hF]at ht;have Zi:=Qc ht;simp only[go_sem,Qa,ht,Zi];refine JJ hb CP (De (i.more λl o e=>by have:=Fm (g:=[]) hF l o e;rwa [Zd]at this)) λd hR=>?_;subst hR;refine Qf hb ?_;simp only[go_sem,Qa,ht,Zi];exact⟨[],by simp⟩
theorem Qe1:Zg prog 144 h [.ptr tl 0 0 0] (λd=>d=iw t.list.head?):=by
 have i2:∀{F:List Ob},F=h.map Ob.ro->∀g,qI (F++g) t:=λhF g=>i.more (Fm hF);have jr:∀{F:List Ob},F=h.map Ob.ro->∀g,((F++g).map Ob.ro)[tl]? = some (vA t).ro:=λhF g=>Fm hF _ _ ht;by_cases hn:t=.nil
 ·subst hn;refine Zt Qh 200 func144 rfl ntmps144 results144 rfl λbase w pl F hF Za hb=>?_;rw[<- hF]at ht;have Zi:=Qc ht;simp only[go_sem,Qa,ht,Zi];refine ZT hb QdQ rfl ?_ (Qe0 (jr hF _) (i2 hF _)) rfl λd hR=>?_
  ·simp only[go_sem,Qa,ht,Zi,Tr.size]
  subst hR;refine Qf hb ?_;simp only[go_sem,Qa,ht,Zi,Tr.size];exact⟨_,rfl,rfl⟩
 ·rw[Tr.gS t hn];have Je:t.size≠0:=by cases t with
   | nil=>exact absurd rfl hn
   | node a b c d=>simp only[Tr.size];omega
  have d0:((t.size:Int)==0)=false:=by simpa using Je
  refine Zt Qh 200 func144 rfl ntmps144 results144 rfl λbase w pl F hF Za hb=>?_;rw[<- hF]at ht;have Zi:=Qc ht;simp only[go_sem,Qa,ht,Zi];refine ZT hb QdQ rfl ?_ (Qe0 (jr hF _) (i2 hF _)) rfl λd hR=>?_
  ·simp only[go_sem,Qa,ht,Zi,d0]
  subst hR;refine Qf hb ?_;simp only[go_sem,Qa,ht,Zi,d0];refine ZZ (λj st=>∃s:Tr,s.size+j<=t.size/\s≠.nil/\qI h s/\s.Dc=t.Dc/\st=⟨[(2,.ptr F.length 0 0 0),(4,s.ptr)],F++[⟨.one,0,4,1,λ_=>[u64 0,Qb 0,u64 0,Qb 0]⟩]⟩) t.size (s0:=⟨[(2,.ptr F.length 0 0 0),(4,t.ptr)],F++[⟨.one,0,4,1,λ_=>[u64 0,Qb 0,u64 0,Qb 0]⟩]⟩) QO ⟨t,by omega,hn,i,rfl,rfl⟩ ?_;rintro j _ hj ⟨s,zx,yV,is,hf,rfl⟩;rcases s with _|⟨ls,im,sl,sr⟩
  ·exact absurd rfl yV
  have h3:=is.1;rw[<- hF]at h3;have Zz:=Qc h3;rcases sl with _|⟨a1,a2,a3,a4⟩
  ·refine Qf hb ?_;simp only[go_sem,Qa,h3,Zz];refine Qf hb ?_;simp only[go_sem,Qa,h3,Zz];rw[<- hf];exact⟨_,rfl,rfl⟩
  ·refine Qf hb ?_;simp only[go_sem,Qa,h3,Zz];refine⟨by simp only[Tr.size]at zx;omega,_,QO,.node a1 a2 a3 a4,by simp only[Tr.size]at zx ⊢;omega,by simp,is.2.1,by rw[<- hf];rfl,rfl⟩
omit ht i in
theorem QtY{n loc}{it:It}{l r:Tr}(h:(Tr.node loc it l r).hasB n=true)(hl:l.hasB n=false)(hi:¬ it.va<=n):r.hasB n=true:=by
 rw[Tr.O5]at h ⊢;obtain⟨x,hx,hv⟩:=h;simp only[Tr.list,QT,QF]at hx;rcases hx with hx|rfl|hx
 ·have:=(Tr.O5 n l).2 ⟨x,hx,hv⟩;rw[hl]at this;cases this
 ·exact absurd hv hi
 ·exact⟨x,hx,hv⟩
theorem QtZ(n):Zg prog 262 h [.ptr tl 0 0 0,u64 n] (λd=>d=iw (t.list.find? λx=>decide (x.va<=n))):=by
 have i2:∀{F:List Ob},F=h.map Ob.ro->∀g,qI (F++g) t:=λhF g=>i.more (Fm hF);rw[<- Tr.UY];cases hB:t.hasB n with
 | false=>
  have Jw:t.first n=none:=by
   rw[Tr.UY,zU];intro x hx hv;have:=(Tr.O5 n t).2 ⟨x,hx,by simpa using hv⟩;rw[hB]at this;cases this
  rw[Jw];refine Zt Qh 200 func262 rfl ntmps262 results262 rfl λbase w pl F hF Za hb=>?_;rw[<- hF]at ht;have Zi:=Qc ht;simp only[go_sem,Qa,ht,Zi];refine ZT hb gi rfl ?_ (gZ (i2 hF _) n) rfl λd hR=>?_
  ·simp only[go_sem,Qa,ht,Zi,hB]
  subst hR;refine Qf hb ?_;simp only[go_sem,Qa,ht,Zi,hB];exact⟨_,rfl,rfl⟩
 | true=>
  refine Zt Qh 200 func262 rfl ntmps262 results262 rfl λbase w pl F hF Za hb=>?_;rw[<- hF]at ht;have Zi:=Qc ht;simp only[go_sem,Qa,ht,Zi];refine ZT hb gi rfl ?_ (gZ (i2 hF _) n) rfl λd hR=>?_
  ·simp only[go_sem,Qa,ht,Zi,hB]
  subst hR;refine Qf hb ?_;simp only[go_sem,Qa,ht,Zi,hB];have hn:t≠.nil:=by rintro rfl;simp[Tr.hasB]at hB
  refine ZZ (λj st=>∃s:Tr,s.size+j<=t.size/\s≠.nil/\qI h s/\s.hasB n=true/\s.first n=t.first n/\st=⟨[(1,u64 n),(4,.ptr F.length 0 0 0),(6,s.ptr)],F++[⟨.one,0,4,1,λ_=>[u64 0,Qb 0,u64 0,Qb 0]⟩]⟩) t.size (s0:=⟨[(1,u64 n),(4,.ptr F.length 0 0 0),(6,t.ptr)],F++[⟨.one,0,4,1,λ_=>[u64 0,Qb 0,u64 0,Qb 0]⟩]⟩) QO ⟨t,by omega,hn,i,hB,rfl,rfl⟩ ?_;rintro j _ hj ⟨s,zx,yV,is,hsB,hf,rfl⟩;rcases s with _|⟨ls,im,sl,sr⟩
  ·exact absurd rfl yV
  have h3:=is.1;rw[<- hF]at h3;have Zz:=Qc h3;rw[Tr.first]at hf;refine Qf hb ?_;simp only[go_sem,Qa,h3,Zz];refine JJ hb gi (gZ (is.2.1.more (Fm hF)) n) λd hR=>?_;subst hR;refine Qf hb ?_;simp only[go_sem,Qa,h3,Zz];cases hL:sl.hasB n with
  | true=>
   rw[hL,Qg rfl]at hf;simp only[go_sem,Qa,hL,h3,Zz];refine⟨by simp only[Tr.size]at zx;omega,_,QO,sl,by simp only[Tr.size]at zx;omega,by rintro rfl;simp[Tr.hasB]at hL,is.2.1,hL,hf,rfl⟩
  | false=>
   rw[hL,Qd (by decide)]at hf;simp only[go_sem,Qa,hL,h3,Zz];by_cases hv:im.va<=n
   ·have d1:=Q7 hv;rw[Qg hv]at hf;simp only[go_sem,Qa,d1,h3,Zz];rw[<- hf];exact⟨_,rfl,rfl⟩
   ·have d1:=QQ hv;rw[Qd hv]at hf;simp only[go_sem,Qa,d1,h3,Zz];have hR:=QtY hsB hL hv;refine⟨by simp only[Tr.size]at zx;omega,_,QO,sr,by simp only[Tr.size]at zx;omega,by rintro rfl;simp[Tr.hasB]at hR,is.2.2,hR,hf,rfl⟩
end
@[go_sem] def iA(o:Option It):Ob:=⟨.one,0,4,1,λ_=>(o.getD default).cells⟩
@[go_sem] def iB(o:Option It):Ob:=⟨.one,0,1,1,λ_=>[QY o.isSome]⟩
def Qt1(x):zq x x=x:=by rw[QeF,Qd (O1 x)]
def Qe2{h:List Ob}{lm lo}{o}(hm:h[lm]? = some (iB o))(ho:h[lo]? = some (iA o))(QB:lm≠lo)(x):
  MFn prog 182 h [.agg x.cells,.ptr lm 0 0 0,.ptr lo 0 0 0] (λ_ h'=>∃g,h'=(h.set lm (iB (qf o x))).set lo (iA (qf o x))++g):=by
 have Yb:=Q3 QB;cases o with
 | none=>
  have cb:=LU x x;rw[Qt1]at cb;refine QU Qh 200 func182 rfl ntmps182 results182 rfl λbase w pl hb=>?_;have QK:=Qc hm;have Qe:=Qc ho;simp only[go_sem,Qa,hm,QK,ho,Qe,Qi QB,Qi Yb,kP,jP,KS,IB,qf,Qv QK,Qv Qe];refine ZA hb LA rfl ?_ cb (Qo.flat rfl) rfl λd h hR=>?_
  ·simp only[go_sem,Qa,hm,QK,ho,Qe,Qi QB,Qi Yb,kP,jP,KS,IB,qf,Qv QK,Qv Qe]
  obtain⟨rfl,rfl⟩:=hR;refine Qf hb ?_;simp only[go_sem,Qa,hm,QK,ho,Qe,Qi QB,Qi Yb,kP,jP,KS,IB,qf,Qv QK,Qv Qe];rw[List.set_comm _ _ Yb,Ji];exact⟨_,rfl⟩
 | some y=>
  have cb:=LU y x;refine QU Qh 200 func182 rfl ntmps182 results182 rfl λbase w pl hb=>?_;have QK:=Qc hm;have Qe:=Qc ho;simp only[go_sem,Qa,hm,QK,ho,Qe,Qi QB,Qi Yb,kP,jP,KS,IB,qf,Qv QK,Qv Qe];refine ZA hb LA rfl ?_ cb (Qo.flat rfl) rfl λd h hR=>?_
  ·simp only[go_sem,Qa,hm,QK,ho,Qe,Qi QB,Qi Yb,kP,jP,KS,IB,qf,Qv QK,Qv Qe]
  obtain⟨rfl,rfl⟩:=hR;refine Qf hb ?_;simp only[go_sem,Qa,hm,QK,ho,Qe,Qi QB,Qi Yb,kP,jP,KS,IB,qf,Qv QK,Qv Qe];exact⟨_,rfl⟩
def Tr.Qt2(n loc)(it:It)(l r:Tr)(o):(Tr.node loc it l r).qJ n o=if n<it.ka then l.qJ n o else r.qJ n (match l with
  | .nil=>qf o it
  | .node a b c d=>qf (qf o it) (Tr.node a b c d).least):=by cases l<;>rfl
def x6(F g:List Ob)(n:Nat)(s:Tr)(o:Option It):St:=
 ⟨[(1,u64 n),(4,.ptr F.length 0 0 0),(6,.ptr (F.length+1) 0 0 0),(7,.ptr (F.length+2) 0 0 0),(8,.clo 182 0 [.ptr (F.length+2) 0 0 0,.ptr (F.length+1) 0 0 0]),(9,s.ptr)],
  F++(⟨.one,0,4,1,λ_=>[u64 0,Qb 0,u64 0,Qb 0]⟩::iA o::iB o::g)⟩
section
variable {h:List Ob}{tl:Nat}{t:Tr}(ht:(h.map Ob.ro)[tl]? = some (vA t).ro)(i:qI h t)
include ht i
theorem Qe3(n):Zg prog 146 h [.ptr tl 0 0 0,u64 n] (λd=>d=iw (t.qJ n none)):=by
 refine Zt Qh 200 func146 rfl ntmps146 results146 rfl λbase w pl F hF Za hb=>?_;rw[<- hF]at ht;have Zi:=Qc ht;simp only[go_sem,Qa,ht,Zi];refine ZZ (λj st=>∃(s:Tr) (o:Option It) (g:List Ob),s.size+j<=t.size/\qI h s/\s.qJ n o=t.qJ n none/\st=x6 F g n s o) t.size (s0:=x6 F [] n t none) ?_ ⟨t,none,[],by omega,i,rfl,rfl⟩ ?_
 ·simp only[x6];exact QO
 rintro j _ hj ⟨s,o,g,zx,is,hf,rfl⟩;rcases s with _|⟨ls,im,sl,sr⟩
 ·simp only[x6];apply Q1 hb;apply Q1 hb;apply KL [] hb [0] [1,2,3];simp only[go_sem,Qa];have qG:o=t.qJ n none:=hf;subst qG;refine⟨⟨_,rfl,rfl⟩,⟨_,rfl,rfl⟩⟩
 have h3:=is.1;rw[<- hF]at h3;have Zz:=Qc h3;rw[Tr.Qt2]at hf;by_cases hv:n<im.ka
 ·have d1:=Q7 hv;rw[Qg hv]at hf;simp only[x6];refine Qf hb ?_;simp only[go_sem,Qa,h3,Zz,d1];refine⟨by simp only[Tr.size]at zx;omega,x6 F g n sl o,?_,sl,o,g,by simp only[Tr.size]at zx;omega,is.2.1,hf,rfl⟩;simp only[x6];exact QO
 ·have d1:=QQ hv;rw[Qd hv]at hf;simp only[x6];refine Qf hb ?_;simp only[go_sem,Qa,h3,Zz,d1];refine Jl hb QdR (Qe2 (lm:=F.length+2) (lo:=F.length+1) (o:=o) (KX rfl) (KX rfl) (by omega) im) λd h6 hR=>?_;obtain⟨g2,rfl⟩:=hR;simp only[go_sem,Qa];cases sl with
  | nil=>
   refine Qf hb ?_;simp only[go_sem,Qa,h3,Zz];refine⟨by simp only[Tr.size]at zx;omega,x6 F (g++g2) n sr (qf o im),?_,sr,_,_,by simp only[Tr.size]at zx;omega,is.2.2,hf,rfl⟩;simp only[x6];exact QO
  | node a b c e=>
   have h4:=is.2.1.1;rw[<- hF]at h4;have Df:=Qc h4;refine Qf hb ?_;simp only[go_sem,Qa,h3,Zz,h4,Df];refine Jl hb QdR (Qe2 (lm:=F.length+2) (lo:=F.length+1) (o:=qf o im) (KX rfl) (KX rfl) (by omega) (Tr.node a b c e).least) λd h6 hR=>?_;obtain⟨g3,rfl⟩:=hR;simp only[go_sem,Qa];refine Qf hb ?_;simp only[go_sem,Qa,h3,Zz];refine⟨by simp only[Tr.size]at zx;omega,x6 F (g++(g2++g3)) n sr (qf (qf o im) (Tr.node a b c e).least),?_,sr,_,_,by simp only[Tr.size]at zx;omega,is.2.2,hf,rfl⟩;simp only[x6];exact QO
end
def WX(e:QR):Int × D:=(e.k,e.v)
structure Xv (es:List QR) (P:List (Int × D)):Prop where
 perm:(es.map WX).Perm P
 nd:(P.map Prod.fst).Nodup
def Xv.An{es}{P}(M:Xv es P):W7 es:=by
 have h1:es.map (·.k)=(es.map WX).map Prod.fst:=by simp[WX,Sd]
 unfold W7;rw[h1,(M.perm.map Prod.fst).nodup_iff];exact M.nd
def iC:∀{es:List QR},W7 es->∀{k:Int} {v:D},ZP es k=some v↔(k,v)∈es.map WX
 | [],_,k,v=>by simp[ZP]
 | e::es,hn,k,v=>by
  have VC:W7 es:=by unfold W7 at hn ⊢;simp only[Jz,ZK]at hn;exact hn.2
  simp only[ZP];by_cases h:e.k=k
  ·rw[Qg h];constructor
   ·rintro⟨rfl⟩;simp[WX,h]
   ·intro hm;simp only[Jz,QF]at hm;rcases hm with hm|hm
    ·simp only[WX,Q4]at hm;rw[hm.2]
    ·exfalso;obtain⟨e',Ws,hh⟩:=Jn.1 hm;simp only[WX,Q4]at hh;unfold W7 at hn;simp only[Jz,ZK,Jn,Cg,not_and]at hn;exact hn.1 e' Ws (by rw[hh.1,h])
  ·rw[Qd h,iC VC];simp only[Jz,QF];constructor
   ·exact λh=>.inr h
   ·rintro (hm|hm)
    ·simp only[WX,Q4]at hm;exact absurd hm.1.symm h
    ·exact hm
def look(P:List (Int × D))(k:Int):Option D:=(P.find? λp=>p.1==k).map Prod.snd
def U1:∀{P:List (Int × D)},(P.map Prod.fst).Nodup->∀{k:Int} {v:D},look P k=some v↔(k,v)∈P
 | [],_,k,v=>by simp[look]
 | p::P,hn,k,v=>by
  simp only[Jz,ZK]at hn;have ih:=U1 hn.2 (k:=k) (v:=v);unfold look at ih ⊢;rw[kJ];by_cases h:p.1=k
  ·rw[zY.2 h];simp only[Kt,QV,QF];constructor
   ·rintro rfl;exact .inl (by rw[<- h])
   ·rintro (hm|hm)
    ·rw[<- hm]
    ·exact absurd (Jn.2 ⟨_,hm,rfl⟩) (by rw[<- h];exact hn.1)
  ·have hb:(p.1==k)=false:=by simpa using h
   rw[hb,ih,QF];constructor
   ·exact λh=>.inr h
   ·rintro (hm|hm)
    ·exact absurd (by rw[<- hm]) h
    ·exact hm
def Xv.look{es}{P}(M:Xv es P)(k):ZP es k=look P k:=by
 cases hf:X.look P k with
 | some v=>
  rw[iC M.An,M.perm.mem_iff];exact(U1 M.nd).1 hf
 | none=>
  cases ha:ZP es k with
  | none=>rfl
  | some v=>
   rw[iC M.An,M.perm.mem_iff]at ha;rw[(U1 M.nd).2 ha]at hf;cases hf
def Xv.len{es:List QR}{P:List (Int × D)}(M:Xv es P):es.length=P.length:=by
 have:=M.perm.length_eq;rwa [J6]at this
def Ay(P:List (Int × D))(k:Int):List (Int × D):=P.filter λp=>p.1 != k
def Dg(P:List (Int × D))(k:Int)(v:D):List (Int × D):=(k,v)::Ay P k
def Qe4{P:List (Int × D)}(k:Int)(h:(P.map Prod.fst).Nodup):((Ay P k).map Prod.fst).Nodup:=by
 unfold Ay;exact List.Nodup.sublist (List.Sublist.map _ List.filter_sublist) h
def Qe5{P:List (Int × D)}(k)(v:D)(h:(P.map Prod.fst).Nodup):((Dg P k v).map Prod.fst).Nodup:=by
 rw[Dg,Jz,ZK];refine⟨λhm=>?_,Qe4 k h⟩;obtain⟨p,hp,e⟩:=Jn.1 hm;simp only[Ay,JE,bne_iff_ne,ne_eq]at hp;exact hp.2 e
def Qe6:∀{es:List QR} (k:Int) (v:D),W7 es->(∃u,ZP es k=some u)->((za es k v).map WX).Perm ((k,v)::(es.map WX).filter λp=>p.1 != k)
 | [],k,v,_,h=>by obtain⟨u,hu⟩:=h;cases hu
 | e::es,k,v,hn,h=>by
  have VC:W7 es/\∀e'∈es,e'.k≠e.k:=by
   unfold W7 at hn ⊢;simp only[Jz,ZK,Jn,Cg,not_and]at hn;exact⟨hn.2,hn.1⟩
  simp only[za];by_cases he:e.k=k
  ·rw[Qg he,Jz,Jz];have h1:(WX e).1=k:=he;rw[kI,show ((WX e).1 != k)=false by rw[h1];simp];simp only[Yn,kQ];rw[xi.2]
   ·exact Iu _
   ·intro p hp;obtain⟨e',Ws,rfl⟩:=Jn.1 hp;have:=VC.2 e' Ws;simpa[WX,<- he] using this
  ·rw[Qd he,Jz,Jz,kI];have h1:((WX e).1 != k)=true:=by simpa[WX] using he
   rw[h1,Qg rfl];have h2:∃u,ZP es k=some u:=by
    obtain⟨u,hu⟩:=h;simp only[ZP,Qd he]at hu;exact⟨u,hu⟩
   exact(List.Perm.cons _ (Qe6 k v VC.1 h2)).trans (List.Perm.swap _ _ _)
def Xv.set{es}{P}(M:Xv es P)(q)(c)(k)(v):∃c' es',JI q c es k v=QM q c' es'/\Xv es' (Dg P k v):=by
 unfold JI;cases ha:ZP es k with
 | some u=>
  refine⟨c,za es k v,rfl,?_,Qe5 k v M.nd⟩;exact(Qe6 k v M.An ⟨u,ha⟩).trans (List.Perm.cons _ (M.perm.filter _))
 | none=>
  refine⟨c+1,es++[⟨k,v,c⟩],rfl,?_,Qe5 k v M.nd⟩;rw[vS,Dg];have hd:Ay P k=P:=by
   unfold Ay;rw[xi];intro p hp;rw[bne_iff_ne];intro e;have:=(U1 M.nd (k:=k) (v:=p.2)).2 (by rw[<- e];exact hp);rw[<- M.look,ha]at this;cases this
  rw[hd];exact(List.perm_append_comm.trans (List.Perm.cons _ M.perm))
def Qe7:∀{es:List QR} (k:Int),W7 es->((JB es k).map WX)=((es.map WX).filter λp=>p.1 != k)
 | [],_,_=>rfl
 | e::es,k,hn=>by
  have VC:W7 es/\∀e'∈es,e'.k≠e.k:=by
   unfold W7 at hn ⊢;simp only[Jz,ZK,Jn,Cg,not_and]at hn;exact⟨hn.2,hn.1⟩
  simp only[JB];by_cases he:e.k=k
  ·rw[Qg he,Jz,kI,show ((WX e).1 != k)=false by simpa[WX] using he];simp only[Yn,kQ];rw[xi.2];intro p hp;obtain⟨e',Ws,rfl⟩:=Jn.1 hp;have:=VC.2 e' Ws;simpa[WX,<- he] using this
  ·rw[Qd he,Jz,Jz,kI,show ((WX e).1 != k)=true by simpa[WX] using he,Qg rfl,Qe7 k VC.1]
def Xv.del{es}{P}(M:Xv es P)(k):Xv (JB es k) (Ay P k):=by
 refine⟨?_,Qe4 k M.nd⟩;rw[Qe7 k M.An];exact M.perm.filter _
def Xv.nil:Xv [] []:=⟨by simp,by simp⟩
def Xv.to{es}{P Q:List (Int × D)}(M:Xv es P)(h:P.Perm Q):Xv es Q:=⟨M.perm.trans h,((h.map Prod.fst).nodup_iff).1 M.nd⟩
structure Step (S:Nat->Prop) (h h':List Ob):Prop where
 keep:∀l,l<h.length->¬ S l->h'[l]? = h[l]?
 len:h.length<=h'.length
def more(S:Nat->Prop)(h:List Ob):Nat->Prop:=λl=>S l\/h.length<=l
def Step.trans{S}{h h' XZ}(a:Step S h h')(b:Step (more S h) h' XZ):Step S h XZ:=
 ⟨λl hl hn=>by rw[b.keep l (jO hl a.len) (λh1=>h1.elim hn (by omega)),a.keep l hl hn],Kz a.len b.len⟩
def Step.app(S)(h g):Step S h (h++g):=⟨λl hl _=>QC hl,by simp⟩
structure Kq (es:List QR) (f:Int->Option D):Prop where
 nd:W7 es
 at_:∀k,ZP es k=f k
section
variable {es:List QR}{f:Int->Option D}
def Kq.p(M:Kq es f):Xv es (es.map WX):=⟨Iu _,by
 have h1:(es.map WX).map Prod.fst=es.map (·.k):=by simp[WX,Sd]
 rw[h1];exact M.nd⟩
def Kq.to{g}(M:Kq es f)(h:∀k,f k=g k):Kq es g:=⟨M.nd,λk=>(M.at_ k).trans (h k)⟩
def Qe8(P)(k j):look (Ay P k) j=if j=k then none else look P j:=by
 unfold look Ay;rw[List.find?_filter];by_cases h:j=k
 ·subst h;rw[Qg rfl,dw,zU];intro p _ hp;simp at hp
 ·rw[Qd h];congr 2;funext p;by_cases h2:p.1=j
  ·simp[h2,h]
  ·simp[h2]
def Qt3(P)(k)(v)(j):look (Dg P k v) j=if j=k then some v else look P j:=by
 have h0:=Qe8 P k j;unfold look at h0 ⊢;unfold Dg;rw[kJ];by_cases h:j=k
 ·subst h;simp
 ·have hb:((k,v).1==j)=false:=by simpa using Q3 h
  rw[hb,Qd h];rw[Qd h]at h0;exact h0
def Kq.set(M:Kq es f)(q)(c)(k)(v):∃c' es',JI q c es k v=QM q c' es'/\Kq es' (λj=>if j=k then some v else f j):=by
 obtain⟨c',es',h1,h2⟩:=M.p.set q c k v;refine⟨c',es',h1,h2.An,λj=>?_⟩;rw[h2.look,Qt3];split
 ·rfl
 ·rw[<- M.p.look,M.at_]
def Kq.del(M:Kq es f)(k):Kq (JB es k) (λj=>if j=k then none else f j):=by
 have h2:=M.p.del k;refine⟨h2.An,λj=>?_⟩;rw[h2.look,Qe8];split
 ·rfl
 ·rw[<- M.p.look,M.at_]
def Kq.nil:Kq [] (λ_=>none):=⟨by simp[W7],λ_=>rfl⟩
def Kq.Qe9(M:Kq es f):es.length=0↔∀k,f k=none:=by
 constructor
 ·intro h k;rw[NG]at h;rw[<- M.at_,h];rfl
 ·intro h;cases es with
  | nil=>rfl
  | cons e es=>
   have h1:=M.at_ e.k;rw[h,ZP,Qg rfl]at h1;cases h1
end
def Hj(b:Bool):Int:=if b then 1 else 0
def kb(T:List Qn)(k:Int):Option D:=match Qy T k with
 | some c=>if 1<QZ c.ls then some (.agg [Qb c.parent,Qb (Hj c.leaf)]) else none
 | none=>none
def x7(T:List Qn)(A:List Int)(k:Int):Option D:=if k∈A then some (Qb ((Qy T k).getD default).parent) else none
def BE(kl:Int->Option Nat)(k:Int):Option D:=(kl k).map λl=>.mref l 0
def wC(f:Int->Bool)(i:Int):Option D:=if f i then some (Qb 1) else none
@[go_sem] def U2(b1 b2 b3:Nat):Ob:=⟨.one,0,3,1,λ_=>[.mref b1 0,.mref b2 0,.mref b3 0]⟩
structure qL (S:Nat->Prop) (h:List Ob) (p b1 b2 b3 c1 c2 c3:Nat) (Zw ZQ Ke:List QR) (kl:Int->Option Nat) (T:List Qn) (A:List Int) (Kd:Int->Int->Bool):Prop where
 o:h[p]? = some (U2 b1 b2 b3)
 m1:h[b1]? = some (QM .i64 c1 Zw)
 f1:Kq Zw (kb T)
 m2:h[b2]? = some (QM .i64 c2 ZQ)
 f2:Kq ZQ (x7 T A)
 m3:h[b3]? = some (QM .i64 c3 Ke)
 f3:Kq Ke (BE kl)
 ks:∀k l,kl k=some l->∃c es,h[l]? = some (QM .i64 c es)/\Kq es (wC (Kd k))
 kn:∀k i,kl k=none->Kd k i=false
 ki:∀k k' l,kl k=some l->kl k'=some l->k=k'
 Pj:b1≠b2
 Pm:b1≠b3
 LX:b2≠b3
 U3:p≠b1
 Pn:p≠b2
 Dh:p≠b3
 nk:∀k l,kl k=some l->l≠p/\l≠b1/\l≠b2/\l≠b3
 sp:S p
 s1:S b1
 s2:S b2
 s3:S b3
 sk:∀k l,kl k=some l->S l
def qM(S:Nat->Prop)(h:List Ob)(p:Nat)(T:List Qn)(A:List Int):Prop:=∃b1 b2 b3 c1 c2 c3 Zw ZQ Ke kl,qL S h p b1 b2 b3 c1 c2 c3 Zw ZQ Ke kl T A (qc T A)
def qL.step{S S'}{h h'}{p b1 b2 b3 c1 c2 c3}{Zw ZQ Ke}{kl}{T}{A}{Kd}
  (e:∀l,l<h.length->S l->S' l/\h'[l]? = h[l]?) (T0:qL S h p b1 b2 b3 c1 c2 c3 Zw ZQ Ke kl T A Kd):qL S' h' p b1 b2 b3 c1 c2 c3 Zw ZQ Ke kl T A Kd:=by
 have k:∀l o,S l->h[l]? = some o->S' l/\h'[l]? = some o:=λl o h1 h2=>⟨(e l (Qc h2) h1).1,(e l (Qc h2) h1).2.trans h2⟩;refine⟨(k _ _ T0.sp T0.o).2,(k _ _ T0.s1 T0.m1).2,T0.f1,(k _ _ T0.s2 T0.m2).2,T0.f2,(k _ _ T0.s3 T0.m3).2,T0.f3,λq l hl=>?_,T0.kn,T0.ki,T0.Pj,T0.Pm,T0.LX,T0.U3,T0.Pn,T0.Dh,T0.nk,(k _ _ T0.sp T0.o).1,(k _ _ T0.s1 T0.m1).1,(k _ _ T0.s2 T0.m2).1,(k _ _ T0.s3 T0.m3).1,λq l hl=>?_⟩
 ·obtain⟨c,es,h1,h2⟩:=T0.ks q l hl;exact⟨c,es,(k _ _ (T0.sk q l hl) h1).2,h2⟩
 ·obtain⟨c,es,h1,h2⟩:=T0.ks q l hl;exact(k _ _ (T0.sk q l hl) h1).1
def qM.step{S S'}{h h':List Ob}{p}{T}{A}(e:∀l,l<h.length->S l->S' l/\h'[l]? = h[l]?):qM S h p T A->qM S' h' p T A:=
 λ⟨b1,b2,b3,c1,c2,c3,Zw,ZQ,Ke,kl,O⟩=>⟨b1,b2,b3,c1,c2,c3,Zw,ZQ,Ke,kl,O.step e⟩
structure Qt4 (h:List Ob) (p b1 b2 b3 c1 c2 c3:Nat) (Zw ZQ Ke:List QR) (kl:Int->Option Nat) (T:List Qn) (A:List Int) (Kd:Int->Int->Bool):Prop where
 o:(h.map Ob.ro)[p]? = some (U2 b1 b2 b3).ro
 m1:(h.map Ob.ro)[b1]? = some (QM .i64 c1 Zw).ro
 f1:Kq Zw (kb T)
 m2:(h.map Ob.ro)[b2]? = some (QM .i64 c2 ZQ).ro
 f2:Kq ZQ (x7 T A)
 m3:(h.map Ob.ro)[b3]? = some (QM .i64 c3 Ke).ro
 f3:Kq Ke (BE kl)
 ks:∀k l,kl k=some l->∃c es,(h.map Ob.ro)[l]? = some (QM .i64 c es).ro/\Kq es (wC (Kd k))
 kn:∀k i,kl k=none->Kd k i=false
def Hl(h:List Ob)(p:Nat)(T:List Qn)(A:List Int):Prop:=∃b1 b2 b3 c1 c2 c3 Zw ZQ Ke kl,Qt4 h p b1 b2 b3 c1 c2 c3 Zw ZQ Ke kl T A (qc T A)
def qM.toR{S}{h}{p}{T}{A}:qM S h p T A->Hl h p T A:=
 λ⟨b1,b2,b3,c1,c2,c3,Zw,ZQ,Ke,kl,O⟩=>⟨b1,b2,b3,c1,c2,c3,Zw,ZQ,Ke,kl,ZM O.o,ZM O.m1,O.f1,ZM O.m2,O.f2,ZM O.m3,O.f3,λk l hl=>by
  obtain⟨c,es,h1,h2⟩:=O.ks k l hl;exact⟨c,es,ZM h1,h2⟩,O.kn⟩
def Hl.more{h h':List Ob}{p}{T}{A}(e:∀(l:Nat) (o:Ob),(h.map Ob.ro)[l]? = some o->(h'.map Ob.ro)[l]? = some o):Hl h p T A->Hl h' p T A:=
 λ⟨b1,b2,b3,c1,c2,c3,Zw,ZQ,Ke,kl,O⟩=>⟨b1,b2,b3,c1,c2,c3,Zw,ZQ,Ke,kl,e _ _ O.o,e _ _ O.m1,O.f1,e _ _ O.m2,O.f2,e _ _ O.m3,O.f3,λk l hl=>by
  obtain⟨c,es,h1,h2⟩:=O.ks k l hl;exact⟨c,es,e _ _ h1,h2⟩,O.kn⟩
def Qt5{T}(I:K0 T){A}(hA:wy T A)(id)(h0:id≠0):(id∈A\/∃i,qc T A id i=true)↔Z4 T A id=true:=by
 constructor
 ·rintro (h|⟨i,hi⟩)
  ·obtain⟨c,h1,h2,h3⟩:=hA id h;exact Yy.2 ⟨id,h,Xe I h1⟩
  ·obtain⟨c,h1,h2,h3⟩:=vq.1 hi;obtain⟨d,hd,_⟩:=I.X9 c (wx I h1) (by rw[h2];exact h0);rw[h2]at hd;exact Hc I h3 (by rw[K8 I h1,h2];exact Ks _ (Xe I hd))
 ·intro h;obtain⟨a,ha,hi⟩:=Yy.1 h;by_cases QB:a=id
  ·subst QB;exact .inl ha
  ·obtain⟨i,c,h1,h2,h3⟩:=UT I hi QB;exact .inr ⟨i,vq.2 ⟨c,h2,h3,Yy.2 ⟨a,ha,h1⟩⟩⟩
end Go.Fg.X
namespace Go.Fg.X
open Go.Proofs Go.Fg
open Go.RowKit (Below)
open Go.Proofs.Tryz
def Qfa{P}{f}{h}{args}{R}(d2:D)(hu:∀k,d2.upto k=true)
  (hd:∀d g,R d g->Jv 6 d d2\/∃lo gn sz n row,h.length<=lo/\(h++g)[lo]? = some ⟨.arr,gn,sz,n,row⟩/\(∀i,i<n->(row i).all D.Y6=true)/\Jv 6 (D.fz lo gn n sz row d) d2) (H:Wf P f h args R):Zg P f h args (λd=>d=d2):=by
 intro Z base w pl vs h1 h2 h3 hl hc;have OI:Ze Z w.heap.size (h.map Ob.ro) pl w:=by
  refine⟨h3.len,h3.inj,h3.Vv,λl o b q ho hp=>⟨λhr=>?_,(h3.at_ l o b q ho hp).2⟩⟩;obtain⟨o',_,rfl⟩:=E8 ho;rw[Ti,Kd.toRo_ro]at hr;cases hr
 refine(H Z w.heap.size w pl vs (QD _) h2 OI hl hc).mono λe w' he=>?_;obtain⟨v,d,_,Qj,rfl,⟨g,rfl,hR⟩,hO,hV,hT,hB⟩:=he;have hE:∀b,b<w.heap.size->w'.heap[b]? = w.heap[b]? := λb hb=>hB.block b hb;have Zf:∀(l:Nat),l<h.length->Qj[l]? = pl[l]? := λl hl=>by
  have JA:l<pl.length:=by rw[h3.len];simpa using hl
  obtain⟨o',p',m1,m2,_,_,m3⟩:=hT.obj l _ _ (ZM (QP hl)) (QP JA);rw[Jy (by simpa using hl),ZM (QP hl)]at m1;cases m1;obtain⟨_,rfl⟩:=m3 rfl;rw[m2,QP JA]
 have e1:(h.map Ob.ro++g).take h.length=h.map Ob.ro:=List.take_left' (by simp);have U4:QA Z (h.map Ob.ro) pl w' d2 v->_:=λhx=>(⟨v,d2,h.map Ob.ro,pl,rfl,⟨[],(Zd _).symm,hu _,rfl⟩,h3.ext hE,hx,Go.Fg.Tr.ext h3 hE,hB.mono h1⟩:∃v' d h' Qj,Ending.returned v=.returned v'/\(∃g,h'=h.map Ob.ro++g/\d.upto h.length=true/\d=d2)/\Ze Z base h' Qj w'/\QA Z h' Qj w' d v'/\Go.Fg.Tr (h.map Ob.ro) pl w h' Qj w'/\Below base w w');refine U4 ?_;rcases hd _ _ hR with hle|⟨lo,gn,sz,n,row,Qfb,ZE,Z6,hle⟩
 ·have r:=(Ah 6 hle hV).take (hu h.length);have e2:Qj.take h.length=pl:=by
   apply xh;intro i;rw[W5];by_cases hi:i<h.length
   ·rw[Qg hi,Zf i hi]
   ·rw[Qd hi,Ed (by rw[h3.len];simp;omega)]
  rw[e1,e2]at r;exact r
 have wD:(h.map Ob.ro++g)[lo]? = some ⟨.arr,gn,sz,n,row⟩:=by
  rw[JT (by omega)]at ZE;rw[JT (by simpa using Qfb)];simpa using ZE
 have Qc:lo<Qj.length:=by rw[hO.len];exact(Wc.1 wD).1
 obtain⟨p,hp⟩:∃p,Qj[lo]? = some p:=⟨_,QP Qc⟩;have LY:=hV.fz (l:=lo) (o:=⟨.arr,gn,sz,n,row⟩) (p:=p) wD hp rfl (λb q e=>by
  subst e;refine⟨h2 b ?_,λl' q' e'=>hO.inj _ _ _ _ _ e' hp,(hO.at_ lo _ b q wD hp).2.cells rfl⟩;exact(hO.at_ lo _ b q wD hp).1 rfl) Z6 (h':=(h.map Ob.ro++g).set lo (Ob.gone ⟨.arr,gn,sz,n,row⟩)) (λl' o' QB e=>by
  exact⟨o',by rw[JL (Q3 QB)];exact e,rfl,rfl,rfl⟩)
 have r:=(Ah 6 hle LY).take (hu h.length);have e3:((h.map Ob.ro++g).set lo (Ob.gone ⟨.arr,gn,sz,n,row⟩)).take h.length=h.map Ob.ro:=by
  rw[Ix _ _ (by simpa using Qfb)];exact List.take_left' (by simp)
 have e2:(Qj.set lo none).take h.length=pl:=by
  apply xh;intro i;rw[W5];by_cases hi:i<h.length
  ·rw[Qg hi,JL (by omega),Zf i hi]
  ·rw[Qd hi,Ed (by rw[h3.len];simp;omega)]
 rw[e3,e2]at r;exact r
end Go.Fg.X
namespace Go.Fg.X
open Go.Proofs Go.Fg
open Go.Proofs.Tryz
section
variable (h:List Ob)(t m c:Nat){es:List QR}{L:List Qn}(T:K7 es L)(hlen:L.length<1000000)
 (ht:(h.map Ob.ro)[t]? = some ⟨.Wd,0,1,1,λ_=>[.mref m 0]⟩) (hm:(h.map Ob.ro)[m]? = some (QM .i64 c es).ro)
include T ht hm hlen
theorem Qt6:Wf prog 132 h [.ptr t 0 0 0] (λd g=>JU h.length (h++g) d ((L.filter (·.leaf)).map (·.iD))):=by
 refine Ai Qh 200 func132 rfl ntmps132 results132 rfl λbase w pl F hF Za hb=>?_;rw[<- hF]at ht hm;have Zi:=Qc ht;have QK:=Qc hm;simp only[go_sem,Qa,ht,Zi,hm,QK];have hT:OS (F.map Ob.ro) 164 0 [] (λx=>x.leaf):=λh' x wa=>by
  refine Zt Qh 200 func164 rfl ntmps164 results164 rfl λbase w pl F hF Za hb=>?_;simp only[go_sem,Qa];exact⟨_,rfl⟩
 refine E9 hb Us rfl ?_ (UN _ t m c T hlen (ZM ht) (G8 hm) (.raw (.func (.func 164) ⟨[]⟩ ⟨[]⟩)) 164 0 [] QrM rfl _ hT) rfl λd g hs=>?_
 ·simp only[go_sem]
 apply Q1 hb;exact JU.done Za ⟨_,rfl⟩ hs
end
def Fq{h g:List Ob}(l:Nat)(o:Ob)(e:(h.map Ob.ro)[l]? = some o):((h++g).map Ob.ro)[l]? = some o:=by
 rw[vS,Jy (Ku e)];exact e
def JU.closed{P}{f}{h:List Ob}{args}{L}(H:Wf P f h args (λd g=>JU h.length (h++g) d L)):Zg P f h args (λd=>d=ints L):=by
 refine Qfa (ints L) (λ_=>rfl) ?_ H;rintro d g (⟨rfl,h3⟩|⟨lo,gn,off,row,rfl,⟨ZE,rfl⟩,ho,hr⟩)
 ·subst h3;exact .inl rfl
 ·refine .inr ⟨lo,gn,1,_,row,ZE,ho,λi hi=>?_,?_⟩
  ·have:=hr i (by omega);rw[JG]at this;rw[this];rfl
  ·have e1:D.fz lo gn (0+L.length) 1 row (.ref lo gn 0 L.length)=.imm 1 L.length (rowFrom 0 row):=by simp[D.fz,GU]
   rw[e1];simp only[ints];rw[Up];refine⟨rfl,rfl,λi hi=>?_⟩;rw[G0,hr i hi,QsF];exact Af (xN _) _
def Qt7(h)(x):Zg prog 99 h [Xd x] (λd=>d=QY true):=by
 refine Zt Qh 200 func99 rfl ntmps99 results99 rfl λbase w pl F hF Za hb=>?_;simp only[go_sem,Qa];all_goals first|exact⟨_,rfl,rfl⟩|exact⟨_,rfl⟩|rfl|exact⟨[],(Zd _).symm⟩|exact⟨[],(Zd _).symm,rfl⟩
section
variable (h:List Ob)(t m c:Nat){es:List QR}{L:List Qn}(T:K7 es L)(hlen:L.length<1000000)
 (ht:(h.map Ob.ro)[t]? = some ⟨.Wd,0,1,1,λ_=>[.mref m 0]⟩) (hm:(h.map Ob.ro)[m]? = some (QM .i64 c es).ro)
include T ht hm hlen
theorem Qt8:Wf prog 52 h [.ptr t 0 0 0] (λd g=>JU h.length (h++g) d ((L.filter (λ_=>true)).map (·.iD))):=by
 refine Ai Qh 200 func52 rfl ntmps52 results52 rfl λbase w pl F hF Za hb=>?_;rw[<- hF]at ht hm;have Zi:=Qc ht;have QK:=Qc hm;simp only[go_sem,Qa,ht,Zi,hm,QK];have hT:OS (F.map Ob.ro) 99 0 [] (λx=>true):=λh' x wa=>Qt7 h' x;refine E9 hb Us rfl ?_ (UN _ t m c T hlen (ZM ht) (G8 hm) (.raw (.func (.func 99) ⟨[]⟩ ⟨[]⟩)) 99 0 [] Qrm rfl _ hT) rfl λd g hs=>?_
 ·simp only[go_sem]
 apply Q1 hb;exact JU.done Za ⟨_,rfl⟩ hs
end
def VN(S:Nat->Prop)(h:List Ob)(t:Nat)(T:List Qn):Prop:=∃m c es,h[t]? = some ⟨.one,0,1,1,λ_=>[.mref m 0]⟩/\h[m]? = some (QM .i64 c es)/\K7 es T/\S t/\S m
def WN(h:List Ob)(t:Nat)(T:List Qn):Prop:=∃m c es,(h.map Ob.ro)[t]? = some ⟨.Wd,0,1,1,λ_=>[.mref m 0]⟩/\(h.map Ob.ro)[m]? = some (QM .i64 c es).ro/\K7 es T
def VN.toR{S}{h}{t}{T}:VN S h t T->WN h t T:=λ⟨m,c,es,h1,h2,h3,_,_⟩=>⟨m,c,es,ZM h1,ZM h2,h3⟩
def VN.step{S S'}{h h':List Ob}{t}{T}(e:∀l,l<h.length->S l->S' l/\h'[l]? = h[l]?):VN S h t T->VN S' h' t T:=λ⟨m,c,es,h1,h2,h3,h4,h5⟩=>
 ⟨m,c,es,((e _ (Qc h1) h4).2).trans h1,((e _ (Qc h2) h5).2).trans h2,h3,(e _ (Qc h1) h4).1,(e _ (Qc h2) h5).1⟩
def WN.more{h h':List Ob}{t}{T}(e:∀(l:Nat) (o:Ob),(h.map Ob.ro)[l]? = some o->(h'.map Ob.ro)[l]? = some o):WN h t T->WN h' t T:=λ⟨m,c,es,h1,h2,h3⟩=>⟨m,c,es,e _ _ h1,e _ _ h2,h3⟩
section
variable {h:List Ob}{t:Nat}{T:List Qn}(R:WN h t T)(hlen:T.length<1000000)
include R hlen
theorem iE:Zg prog 52 h [.ptr t 0 0 0] (λd=>d=ints (T.map (·.iD))):=by
 obtain⟨m,c,es,ht,hm,hT⟩:=R;have:=JU.closed (Qt8 h t m c hT hlen ht hm);rwa [xi.2 (λ_ _=>rfl)]at this
theorem Qt9(id):Zg prog 191 h [.ptr t 0 0 0,Qb id] (λd=>d=ints (Wh T id)):=by
 obtain⟨m,c,es,ht,hm,hT⟩:=R;exact JU.closed (gF h t m c hT hlen ht hm id)
omit hlen in
theorem iF(I:TreeInv T)(id):Zg prog 128 h [.ptr t 0 0 0,Qb id] (λd=>d=ints (Jq T 16 id)):=by
 obtain⟨m,c,es,ht,hm,hT⟩:=R;exact JU.closed (Qeq h t m c hT ht hm id 16 (by decide) (I.ends id))
omit hlen in
theorem LZ(id:Int):Zg prog 80 h [.ptr t 0 0 0,Qb id] (λd=>d=.tup [Xd ((Qy T id).getD default),Qb (if (Qy T id).isSome then 0 else 6)]):=by
 obtain⟨m,c,es,ht,hm,hT⟩:=R;exact Qep h t m c hT ht hm id
end
def U5{f}{es:List QR}(M:Kq es (wC f)):0<es.length↔∃i,f i=true:=by
 constructor
 ·intro h;refine vQ λh2=>?_;have:=M.Qe9.2 λk=>by
   unfold wC;rw[Qd (λh3=>h2 ⟨k,h3⟩)]
  omega
 ·rintro⟨i,hi⟩;refine Nat.pos_of_ne_zero λh=>?_;have:=M.Qe9.1 h i;unfold wC at this;rw[Qg hi]at this;cases this
def L0{h}{p}{T}{A}(O:Hl h p T A)(I:K0 T)(hA:wy T A)(id)(h0:id≠0):Zg prog 91 h [.ptr p 0 0 0,Qb id] (λd=>d=QY (Z4 T A id)):=by
 obtain⟨b1,b2,b3,c1,c2,c3,Zw,ZQ,Ke,kl,O⟩:=O;obtain⟨ho,m1,f1,m2,f2,m3,f3,ks,kn⟩:=O;have hi:=Qt5 I hA id h0;have k2:=f2.at_ id;have k3:=f3.at_ id;by_cases Zk:id∈A
 ·have e:Z4 T A id=true:=hi.1 (.inl Zk);rw[x7,Qg Zk]at k2;rw[e];refine Zt Qh 200 func91 rfl ntmps91 results91 rfl λbase w pl F hF Za hb=>?_;rw[<- hF]at ho m2;have Qe:=Qc ho;have Hm:=Qc m2;simp only[go_sem,Qa,ho,Qe,m2,Hm,k2,Go.undef];all_goals first|exact⟨_,rfl,rfl⟩|exact⟨_,rfl⟩|rfl|exact⟨[],(Zd _).symm⟩|exact⟨[],(Zd _).symm,rfl⟩
 ·rw[x7,Qd Zk]at k2;cases hk:kl id with
  | none=>
   have e:Z4 T A id=false:=by
    rw[zT];intro h;rcases hi.2 h with h|⟨i,h⟩
    ·exact Zk h
    ·rw[kn id i hk]at h;cases h
   rw[BE,hk,YU]at k3;rw[e];refine Zt Qh 200 func91 rfl ntmps91 results91 rfl λbase w pl F hF Za hb=>?_;rw[<- hF]at ho m2 m3;have Qe:=Qc ho;have Hm:=Qc m2;have YA:=Qc m3;simp only[go_sem,Qa,ho,Qe,m2,Hm,m3,YA,k2,k3,Go.undef];all_goals first|exact⟨_,rfl,rfl⟩|exact⟨_,rfl⟩|rfl|exact⟨[],(Zd _).symm⟩|exact⟨[],(Zd _).symm,rfl⟩
  | some l=>
   obtain⟨c,es,ml,fl⟩:=ks id l hk;rw[BE,hk,Kt]at k3;have hl:=U5 fl;have Ys:0<es.length↔Z4 T A id=true:=hl.trans ⟨λh=>hi.1 (.inr h),λh=>(hi.2 h).elim (λh=>absurd h Zk) λh=>h⟩;have d0:decide (0<es.length)=Z4 T A id:=by
    cases hq:Z4 T A id with
    | true=>exact Q7 (Ys.2 hq)
    | false=>exact QQ λh=>by rw[Ys.1 h]at hq;cases hq
   have d1:decide ((0:Int)<(es.length:Int))=Z4 T A id:=by rw[<- d0];congr 1;rw[eq_iff_iff];omega
   refine Zt Qh 200 func91 rfl ntmps91 results91 rfl λbase w pl F hF Za hb=>?_;rw[<- hF]at ho m2 m3 ml;have Qe:=Qc ho;have Hm:=Qc m2;have YA:=Qc m3;have vB:=Qc ml;simp only[go_sem,Qa,ho,Qe,m2,Hm,m3,YA,ml,vB,k2,k3,Go.undef,d1];all_goals first|exact⟨_,rfl,rfl⟩|exact⟨_,rfl⟩|rfl|exact⟨[],(Zd _).symm⟩|exact⟨[],(Zd _).symm,rfl⟩
def Step.Po{S}{h H:List Ob}(s:Step S h H){l}(hl:more S h l)(o):Step S h (H.set l o):=
 ⟨λj h1 h2=>by
  have QB:l≠j:=by
   rintro rfl;rcases hl with h3|h3
   ·exact h2 h3
   ·omega
  rw[Qi QB];exact s.keep j h1 h2,by rw[Ki];exact s.len⟩
def Step.iG{S}{h H}(s:Step S h H)(g):Step S h (H++g):=
 ⟨λj h1 h2=>by rw[QC (jO h1 s.len)];exact s.keep j h1 h2,by have:=s.len;simp;omega⟩
structure L6 (S:Nat->Prop) (h:List Ob) (p:Nat) (T:List Qn) (A:List Int) (leaf:Int) (n:Nat) (s:St):Prop where
 ex:∃id dn c lo g row H S' b1 b2 b3 c1 c2 c3 Zw ZQ Ke kl,up T leaf=dn++up T id/\Qy T id=some c/\(up T id).length<=n/\(∀i∈dn++[id],Z4 T A i=false) /\
  qL S' H p b1 b2 b3 c1 c2 c3 Zw ZQ Ke kl T (leaf::A) (zo T A dn)/\(∀l,S' l->more S h l/\l<H.length)/\¬ S' lo/\h.length<=lo/\Step S h H /\
  H[lo]? = some ⟨.arr,g,1,dn.length+1,row⟩/\(∀i,i<dn.length+1->row i=[Qb ((dn++[id]).getD i 0)]) /\
  s=⟨[(0,.ptr p 0 0 0),(6,.ref lo g 0 (dn.length+1)),(7,Qb id)],H⟩
section
variable {S:Nat->Prop}{h:List Ob}{p b1 b2 b3 c1 c2 c3:Nat}{Zw ZQ Ke:List QR}{kl:Int->Option Nat}{T:List Qn}{A:List Int}{Kd:Int->Int->Bool}(O:qL S h p b1 b2 b3 c1 c2 c3 Zw ZQ Ke kl T A Kd)
include O
theorem qL.Qfc{c2'}{Di}{A'}(M2:Kq Di (x7 T A')):qL S (h.set b2 (QM .i64 c2' Di)) p b1 b2 b3 c1 c2' c3 Zw Di Ke kl T A' Kd:=by
 refine⟨(Qi (Q3 O.Pn)).trans O.o,(Qi (Q3 O.Pj)).trans O.m1,O.f1,Qv (Qc O.m2),M2,(Qi O.LX).trans O.m3,O.f3,λk l hl=>?_,O.kn,O.ki,O.Pj,O.Pm,O.LX,O.U3,O.Pn,O.Dh,O.nk,O.sp,O.s1,O.s2,O.s3,O.sk⟩;obtain⟨c,es,h1,h2⟩:=O.ks k l hl;exact⟨c,es,(Qi (Q3 (O.nk k l hl).2.2.1)).trans h1,h2⟩
theorem qL.Qfd{k}{l c'}{es'}{Kd'}(hk:kl k=some l)(M:Kq es' (wC (Kd' k)))(he:∀j,j≠k->∀i,Kd' j i=Kd j i):qL S (h.set l (QM .i64 c' es')) p b1 b2 b3 c1 c2 c3 Zw ZQ Ke kl T A Kd':=by
 obtain⟨n0,n1,n2,n3⟩:=O.nk k l hk;have hl:l<h.length:=by
  obtain⟨c,es,h1,h2⟩:=O.ks k l hk;exact Qc h1
 refine⟨(Qi n0).trans O.o,(Qi n1).trans O.m1,O.f1,(Qi n2).trans O.m2,O.f2,(Qi n3).trans O.m3,O.f3,λj m hj=>?_,λj i hj=>?_,O.ki,O.Pj,O.Pm,O.LX,O.U3,O.Pn,O.Dh,O.nk,O.sp,O.s1,O.s2,O.s3,O.sk⟩
 ·by_cases VB:j=k
  ·subst VB;rw[hk]at hj;cases hj;exact⟨c',es',Qv hl,M⟩
  ·obtain⟨c,es,h1,h2⟩:=O.ks j m hj;have QB:l≠m:=λe=>VB (O.ki j k m hj (by rw[<- e];exact hk));exact⟨c,es,(Qi QB).trans h1,h2.to λi=>by unfold wC;rw[he j VB i]⟩
 ·have VB:j≠k:=by rintro rfl;rw[hk]at hj;cases hj
  rw[he j VB i];exact O.kn j i hj
theorem qL.Qua{k}{n c c3'}{es es3'}{Kd'}(hn:h[n]? = some (QM .i64 c es))(M:Kq es (wC (Kd' k)))(h0:n≠p)(h1:n≠b1)(h2:n≠b2)(h3:n≠b3)(h4:∀j l,kl j=some l->l≠n)(sn:S n)
  (M3:Kq es3' (λj=>if j=k then some (.mref n 0) else BE kl j)) (he:∀j,j≠k->∀i,Kd' j i=Kd j i):qL S (h.set b3 (QM .i64 c3' es3')) p b1 b2 b3 c1 c2 c3' Zw ZQ es3' (λj=>if j=k then some n else kl j) T A Kd':=by
 refine⟨(Qi (Q3 O.Dh)).trans O.o,(Qi (Q3 O.Pm)).trans O.m1,O.f1,(Qi (Q3 O.LX)).trans O.m2,O.f2,Qv (Qc O.m3),M3.to λj=>?_,λj m hj=>?_,λj i hj=>?_,λj j' m hj VW=>?_,O.Pj,O.Pm,O.LX,O.U3,O.Pn,O.Dh,λj m hj=>?_,O.sp,O.s1,O.s2,O.s3,λj m hj=>?_⟩
 ·by_cases VB:j=k<;>simp[BE,VB]
 ·by_cases VB:j=k
  ·subst VB;rw[Qg rfl]at hj;cases hj;exact⟨c,es,(Qi (Q3 h3)).trans hn,M⟩
  ·rw[Qd VB]at hj;obtain⟨c,es,g1,g2⟩:=O.ks j m hj;exact⟨c,es,(Qi (Q3 (O.nk j m hj).2.2.2)).trans g1,g2.to λi=>by unfold wC;rw[he j VB i]⟩
 ·by_cases VB:j=k
  ·subst VB;rw[Qg rfl]at hj;cases hj
  ·rw[Qd VB]at hj;rw[he j VB i];exact O.kn j i hj
 ·by_cases VB:j=k
  ·by_cases Pp:j'=k
   ·rw[VB,Pp]
   ·rw[Qg VB]at hj;rw[Qd Pp]at VW;cases hj;exact absurd rfl (h4 _ _ VW)
  ·by_cases Pp:j'=k
   ·rw[Qd VB]at hj;rw[Qg Pp]at VW;cases VW;exact absurd rfl (h4 _ _ hj)
   ·rw[Qd VB]at hj;rw[Qd Pp]at VW;exact O.ki j j' m hj VW
 ·by_cases VB:j=k
  ·rw[Qg VB]at hj;cases hj;exact⟨h0,h1,h2,h3⟩
  ·rw[Qd VB]at hj;exact O.nk j m hj
 ·by_cases VB:j=k
  ·rw[Qg VB]at hj;cases hj;exact sn
  ·rw[Qd VB]at hj;exact O.sk j m hj
theorem qL.app(g):qL S (h++g) p b1 b2 b3 c1 c2 c3 Zw ZQ Ke kl T A Kd:=O.step λl hl h1=>⟨h1,QC hl⟩
end
def L6.of{S}{h}{p}{T}{A}{leaf}{n}{id}{dn}{c}{lo g k}(row){H}(S'){b1 b2 b3 c1 c2 c3}{Zw ZQ Ke}{kl}
  (hu:up T leaf=dn++up T id) (hc:Qy T id=some c) (hn:(up T id).length<=n) (ha:∀i∈dn++[id],Z4 T A i=false) (O:qL S' H p b1 b2 b3 c1 c2 c3 Zw ZQ Ke kl T (leaf::A) (zo T A dn)) (hS:∀l,S' l->more S h l/\l<H.length) (h1:¬ S' lo) (h2:h.length<=lo) (hs:Step S h H)
  (hk:k=dn.length+1) (h3:H[lo]? = some ⟨.arr,g,1,k,row⟩) (h4:∀i,i<dn.length+1->row i=[Qb ((dn++[id]).getD i 0)]):L6 S h p T A leaf n ⟨[(0,.ptr p 0 0 0),(6,.ref lo g 0 k),(7,Qb id)],H⟩:=by
 subst hk;exact⟨⟨id,dn,c,lo,g,row,H,S',b1,b2,b3,c1,c2,c3,Zw,ZQ,Ke,kl,hu,hc,hn,ha,O,hS,h1,h2,hs,h3,h4,rfl⟩⟩
def Qub(T)(A)(leaf:Int)(k):(if k=leaf then some (Qb ((Qy T leaf).getD default).parent) else x7 T A k)=x7 T (leaf::A) k:=by
 unfold x7;by_cases h:k=leaf
 ·subst h;simp
 ·simp[h]
def Qfe{S}{h}{p}{T}{A}(O:qM S h p T A)(I:K0 T)(hA:wy T A)(leaf)(c:Qn)(hc:Qy T leaf=some c)(jw:c.leaf=true)(qg:1<QZ c.ls)(Jw:Z4 T A leaf=false):
  MFn prog 82 h [.ptr p 0 0 0,Qb leaf] (λd h'=>∃d1,d=.tup [d1,Qb 0]/\JU h.length h' d1 (WL T A leaf)/\qM (more S h) h' p T (leaf::A)/\Step S h h'):=by
 have O0:=O;have hR:=O.toR;obtain⟨b1,b2,b3,c1,c2,c3,Zw,ZQ,Ke,kl,O⟩:=O;have ho:=O.o;have m1:=O.m1;have m2:=O.m2;have m3:=O.m3;have k1:=O.f1.at_ leaf;rw[kb,hc]at k1;simp only[Qg qg,jw,Hj,K6]at k1;have iH:leaf≠0:=λe=>by rw[e,CY I]at hc;cases hc
 have Hn:=L0 hR I hA leaf iH;rw[Jw]at Hn;obtain⟨c2',Di,e2,M2⟩:=O.f2.set .i64 c2 leaf (Qb c.parent);simp only[go_sem]at e2;refine QU Qh 200 func82 rfl ntmps82 results82 rfl λbase w pl hb=>?_;have Qe:=Qc ho;have kf:=Qc m1;simp only[go_sem,Qa,ho,Qe,m1,kf,k1];refine JJ hb OL Hn λd hR=>?_;subst hR;refine Qf hb ?_;simp only[go_sem,Qa,ho,Qe];apply QH hb [0,1,2,3,4,5,6,7,8,9,10,11,1012];simp only[go_sem,Qa,ho,Qe,m1,Qc m1,m2,Qc m2,k1];simp only[e2];have Pq:L6 S h p T A leaf (up T leaf).length ⟨[(0,.ptr p 0 0 0),(6,.ref h.length 0 0 1),(7,Qb leaf)],h.set b2 (QM .i64 c2' Di)++[⟨.arr,0,1,1,λ_=>[Qb leaf]⟩]⟩:=by
  have O2:=((O.step (S':=λl=>S l/\l<h.length) λl h1 h2=>⟨⟨h2,h1⟩,rfl⟩).Qfc (c2':=c2') (M2.to λk=>by
   have hp:(Qy T leaf).getD default=c:=by rw[hc];rfl
   have:=Qub T A leaf k;rw[hp]at this;exact this)).app [⟨.arr,0,1,1,λ_=>[Qb leaf]⟩]
  refine⟨leaf,[],c,h.length,0,λ_=>[Qb leaf],_,λl=>S l/\l<h.length,b1,b2,b3,c1,c2',c3,Zw,Di,Ke,kl,rfl,hc,QD _,λi hi=>?_,?_,λl h1=>⟨.inl h1.1,by have:=h1.2;simp;omega⟩,λh1=>by have:=h1.2;omega,QD _,⟨λl h1 h2=>?_,by simp⟩,?_,λi hi=>?_,rfl⟩
  ·simp only[YT,qA]at hi;rw[hi];exact Jw
  ·rw[show zo T A []=qc T A from funext λp=>funext λi=>Qto T A p i];exact O2
  ·rw[QC (by simpa using h1),Qi (λ(e:b2=l)=>h2 (e▸O.s2))]
  ·rw[Ko (by simp)];rfl
  ·obtain rfl:i=0:=by simp at hi;omega
   rfl
 refine IZ (L6 S h p T A leaf) (up T leaf).length QO Pq ?_;clear Pq O m1 m2 m3 ho k1 e2 M2 Hn O0 hR;rintro n s ⟨id,dn,cc,lo,g,row,H,S',b1,b2,b3,c1,c2,c3,Zw,ZQ,Ke,kl,hu,VE,hn,Fs,O,hS,ZE,wD,Jg,zy,Zx,rfl⟩;have ho:=O.o;have m1:=O.m1;have m3:=O.m3;have Qe:=Qc ho;have kf:=Qc m1;have YA:=Qc m3;have Ft:=Qc zy;obtain⟨d0,Fu,JO⟩:=QeB I hc qg id (by rw[hu];exact Iw _ (Xe I VE));rw[VE]at Fu;cases Fu;have k1:=O.f1.at_ id;rw[kb,VE]at k1;simp only[Qg JO]at k1;have k3:=O.f3.at_ cc.parent;have Z1:=Qtm I hA hu VE Fs;have U6:=Qtn I (A:=A) (dn:=dn) VE;have iI:b3≠lo:=λe=>ZE (e▸O.s3);have QEf:p≠lo:=λe=>ZE (e▸O.sp);have QEg:b1≠lo:=λe=>ZE (e▸O.s1);have fin:∀(H2:List Ob) (S2:Nat->Prop) c3' es3' kl',qL S2 H2 p b1 b2 b3 c1 c2 c3' Zw ZQ es3' kl' T (leaf::A) (zo T A (dn++[id]))->(∀l,S2 l->more S h l)->Step S h H2->H2[lo]? = some ⟨.arr,g,1,dn.length+1,row⟩->(cc.parent=0\/Z4 T A cc.parent=true) ->
   JU h.length H2 (.ref lo g 0 (dn.length+1)) (WL T A leaf)/\qM (more S h) H2 p T (leaf::A)/\Step S h H2:=λH2 S2 c3' es3' kl' O2 Ho Fv Quc he=>by
  obtain⟨e1,e2⟩:=Qtp I hA hu VE Fs he;rw[<- e1];refine⟨.inr ⟨lo,g,0,row,by simp,⟨wD,rfl⟩,by simpa using Quc,λi hi=>?_⟩,?_,Fv⟩
  ·rw[JG];exact Zx i (by simpa using hi)
  ·rw[show zo T A (dn++[id])=qc T (leaf::A) from funext λp=>funext λi=>e2 p i]at O2;exact⟨_,_,_,_,_,_,_,_,_,_,O2.step λl h1 h2=>⟨Ho l h2,rfl⟩⟩
 by_cases L7:∃i,zo T A dn cc.parent i=true
 ·
  cases hk:kl cc.parent with
  | none=>obtain⟨i,hi⟩:=L7;rw[O.kn _ i hk]at hi;cases hi
  | some l=>
   obtain⟨c,es,ml,fl⟩:=O.ks _ l hk;have vB:=Qc ml;rw[BE,hk,Kt]at k3;have yR:0<es.length:=(U5 fl).2 L7;have d1:((es.length:Int)==0)=false:=Xt (by omega);have d2:decide ((0:Int)<(es.length:Int))=true:=Q7 (by omega);have Dj:=(O.nk _ l hk).2.2.2;have iJ:l≠lo:=λe=>ZE (e▸O.sk _ l hk);obtain⟨c',es',ea,M'⟩:=fl.set .i64 c id (Qb 1);simp only[go_sem]at ea;have he:cc.parent=0\/Z4 T A cc.parent=true:=by
    by_cases h0:cc.parent=0
    ·exact .inl h0
    ·obtain⟨d,hd,CZ⟩:=I.X9 cc (wx I VE) h0;exact .inr ((QeA I hA hd CZ).2 (Z1.1 L7))
   have O2:=O.Qfd (c':=c') (es':=es') (Kd':=zo T A (dn++[id])) hk (M'.to λj=>by
    unfold wC;rw[U6];by_cases hj:j=id
    ·simp[hj]
    ·simp[hj]) (λj hj i=>by rw[U6,Qd (λh=>hj h.1)])
   refine Qf hb ?_;simp only[go_sem,Qa,ho,Qe,m1,kf,m3,YA,k1,k3,ml,vB,d1,d2,Go.undef];simp only[ea];exact⟨_,rfl,fin _ _ _ _ _ O2 (λl h=>(hS l h).1) (Jg.Po (hS l (O.sk _ l hk)).1 _) ((Qi iJ).trans zy) he⟩
 ·
  have hz:∀i,zo T A dn cc.parent i=false:=λi=>by
   rw[zT];exact λh=>L7 ⟨i,h⟩
  have hB:(kl cc.parent=none/\True/\True/\True)\/∃l c es,kl cc.parent=some l/\H[l]? = some (QM .i64 c es)/\l<H.length/\es.length=0:=by
   cases hk:kl cc.parent with
   | none=>exact .inl ⟨rfl,trivial,trivial,trivial⟩
   | some l=>
    obtain⟨c,es,ml,fl⟩:=O.ks _ l hk;refine .inr ⟨l,c,es,rfl,ml,Qc ml,?_⟩;have:=(U5 fl).1;by_cases h0:0<es.length
    ·exact absurd (this h0) L7
    ·omega
  obtain⟨c3',es3',e3,M3⟩:=O.f3.set .i64 c3 cc.parent (.mref H.length 0);obtain⟨Ma,Mb,e0,M0⟩:=Kq.nil.set .i64 0 id (Qb 1);simp only[go_sem]at e3 e0;have Pr:=M3.at_ cc.parent;rw[Qg rfl]at Pr;have Ps:∀l,S' l->l≠H.length:=λl hl e=>by have:=(hS l hl).2;omega
  have QEh:=Jg.len;have O2:=((O.app [QM .i64 Ma Mb]).step (S':=λl=>S' l\/l=H.length) λl _ h2=>⟨.inl h2,rfl⟩).Qua (k:=cc.parent) (n:=H.length) (c3':=c3') (es3':=es3') (Kd':=zo T A (dn++[id])) (Ko rfl) (M0.to λj=>by
    unfold wC;rw[U6,hz];by_cases hj:j=id
    ·simp[hj]
    ·simp[hj]) (λe=>Ps p O.sp e.symm) (λe=>Ps b1 O.s1 e.symm) (λe=>Ps b2 O.s2 e.symm) (λe=>Ps b3 O.s3 e.symm) (λj l hj=>Ps l (O.sk j l hj)) (.inr rfl) M3 (λj hj i=>by rw[U6,Qd (λh=>hj h.1)])
  rw[Bt YA]at O2;have Fv:=(Jg.Po (hS b3 O.s3).1 (QM .i64 c3' es3')).iG [QM .i64 Ma Mb];have Hp:((H.set b3 (QM .i64 c3' es3'))++[QM .i64 Ma Mb])[lo]? = some ⟨.arr,g,1,dn.length+1,row⟩:=by
   rw[QC (by simpa using Ft),Qi iI];exact zy
  have Ho:∀l,(S' l\/l=H.length)->more S h l:=λl hl=>hl.elim (λh=>(hS l h).1) λe=>.inr (by omega);have CZ:dn.length<=16:=by
   have e:=congrArg List.length hu;have:=Ar (L:=T) (n:=16) (id:=leaf);rw[ZX]at e;unfold up at e;omega
  have k9:cc.parent≠0->L6 S h p T A leaf (up T cc.parent).length ⟨[(0,.ptr p 0 0 0),(6,.ref lo (g+1) 0 (dn.length+1+1)),(7,Qb cc.parent)],
    (H.set b3 (QM .i64 c3' es3')).set lo ⟨.arr,g+1,1,dn.length+1+1,J2 (dn.length+1) 0 row λ_=>[Qb cc.parent]⟩++[QM .i64 Ma Mb,⟨.arr,0,1,1,λ_=>[Qb cc.parent]⟩]⟩:=λh0=>by
   obtain⟨d,hd,Qfg⟩:=I.X9 cc (wx I VE) h0;have e1:(dn++[id]).length+1=dn.length+1+1:=by simp
   have XM:Z4 T A cc.parent=false:=by
    rw[zT];exact λhq=>L7 (Z1.2 ((QeA I hA hd Qfg).1 hq))
   have Dl:lo<(H.set b3 (QM .i64 c3' es3')).length:=by simpa using Ft
   have e2:(H.set b3 (QM .i64 c3' es3')).set lo ⟨.arr,g+1,1,dn.length+1+1,J2 (dn.length+1) 0 row λ_=>[Qb cc.parent]⟩++[QM .i64 Ma Mb,⟨.arr,0,1,1,λ_=>[Qb cc.parent]⟩] =
     (H.set b3 (QM .i64 c3' es3')++[QM .i64 Ma Mb]).set lo ⟨.arr,g+1,1,dn.length+1+1,J2 (dn.length+1) 0 row λ_=>[Qb cc.parent]⟩++[⟨.arr,0,1,1,λ_=>[Qb cc.parent]⟩]:=by
    rw[Bt Dl];simp
   rw[e2];have Qfh:∀l,(S' l\/l=H.length)->l≠lo:=λl hl e=>by
    subst e;rcases hl with hl|hl
    ·exact ZE hl
    ·omega
   refine L6.of (J2 (dn.length+1) 0 row λ_=>[Qb cc.parent]) (λl=>S' l\/l=H.length) (dn:=dn++[id]) ?_ hd (QD _) (λi hi=>?_) (O2.step (λl h1 h2=>⟨h2,?_⟩)) (λl hl=>⟨Ho l hl,?_⟩) (λh1=>Qfh lo h1 rfl) wD ((Fv.Po (.inr wD) _).iG _) e1.symm ?_ ?_
   ·rw[hu,K8 I VE];simp
   ·rcases QT.1 hi with hi|hi
    ·exact Fs i hi
    ·rw[qA.1 hi];exact XM
   ·rw[QC (by simpa using h1),Qi (Q3 (Qfh l h2))]
   ·rcases hl with hl|hl
    ·have:=(hS l hl).2;simp;omega
    ·simp;omega
   ·rw[QC (by simp;omega),Qv (by simp;omega)]
   ·intro i hi;have:=G7 (dn:=dn++[id]) (off:=0) (row:=row) (v:=cc.parent) (λi hi=>by rw[JG];exact Zx i (by simpa using hi)) i (by simpa using hi);rw[JG]at this;simpa using this
  rcases hB with ⟨hk,ml,vB,Oy⟩|⟨l,c,es,hk,ml,vB,Oy⟩
  ·rw[BE,hk,YU]at k3;refine Qf hb ?_;simp only[go_sem,Qa,ho,Qe,m1,kf,m3,YA,k1,k3,ml,vB,Oy,Go.undef];simp only[e3];by_cases h0:cc.parent=0
   ·have d0:(cc.parent==0)=true:=by simpa using h0
    simp only[go_sem,Qa,ho,Qe,Qi (Q3 O.Dh),Qv YA,YA,Pr,e0,d0];exact⟨_,rfl,fin _ _ _ _ _ O2 Ho Fv Hp (.inl h0)⟩
   ·have d0:(cc.parent==0)=false:=by simpa using h0
    simp only[go_sem,Qa,ho,Qe,Qi (Q3 O.Dh),Qv YA,YA,Pr,e0,d0,Hp,zy,Qi iI,Ft];refine⟨by omega,(up T cc.parent).length,⟨[(0,.ptr p 0 0 0),(6,.ref lo (g+1) 0 (dn.length+1+1)),(7,Qb cc.parent)],_⟩,?_,QO,k9 h0⟩;have:=congrArg List.length (K8 I VE);simp only[Vu]at this;omega
  ·rw[BE,hk,Kt]at k3;refine Qf hb ?_;simp only[go_sem,Qa,ho,Qe,m1,kf,m3,YA,k1,k3,ml,vB,Oy,Go.undef];simp only[e3];by_cases h0:cc.parent=0
   ·have d0:(cc.parent==0)=true:=by simpa using h0
    simp only[go_sem,Qa,ho,Qe,Qi (Q3 O.Dh),Qv YA,YA,Pr,e0,d0];exact⟨_,rfl,fin _ _ _ _ _ O2 Ho Fv Hp (.inl h0)⟩
   ·have d0:(cc.parent==0)=false:=by simpa using h0
    simp only[go_sem,Qa,ho,Qe,Qi (Q3 O.Dh),Qv YA,YA,Pr,e0,d0,Hp,zy,Qi iI,Ft];refine⟨by omega,(up T cc.parent).length,⟨[(0,.ptr p 0 0 0),(6,.ref lo (g+1) 0 (dn.length+1+1)),(7,Qb cc.parent)],_⟩,?_,QO,k9 h0⟩;have:=congrArg List.length (K8 I VE);simp only[Vu]at this;omega
structure Mc (S:Nat->Prop) (h:List Ob) (p:Nat) (T:List Qn) (A:List Int) (leaf:Int) (n:Nat) (s:St):Prop where
 ex:∃id dn c lo g row H S' b1 b2 b3 c1 c2 c3 Zw ZQ Ke kl,up T leaf=dn++up T id/\Qy T id=some c/\(up T id).length<=n/\(∀i∈dn++[id],Z4 T (JP A leaf) i=false) /\
  qL S' H p b1 b2 b3 c1 c2 c3 Zw ZQ Ke kl T (JP A leaf) (jt T A dn)/\(∀l,S' l->more S h l/\l<H.length)/\¬ S' lo/\h.length<=lo/\Step S h H /\
  H[lo]? = some ⟨.arr,g,1,dn.length+1,row⟩/\(∀i,i<dn.length+1->row i=[Qb ((dn++[id]).getD i 0)]) /\
  s=⟨[(0,.ptr p 0 0 0),(6,.ref lo g 0 (dn.length+1)),(7,Qb id)],H⟩
def Mc.of{S}{h}{p}{T}{A}{leaf}{n}{id}{dn}{c}{lo g k}(row){H}(S'){b1 b2 b3 c1 c2 c3}{Zw ZQ Ke}{kl}
  (hu:up T leaf=dn++up T id) (hc:Qy T id=some c) (hn:(up T id).length<=n) (ha:∀i∈dn++[id],Z4 T (JP A leaf) i=false) (O:qL S' H p b1 b2 b3 c1 c2 c3 Zw ZQ Ke kl T (JP A leaf) (jt T A dn)) (hS:∀l,S' l->more S h l/\l<H.length) (h1:¬ S' lo) (h2:h.length<=lo) (hs:Step S h H)
  (hk:k=dn.length+1) (h3:H[lo]? = some ⟨.arr,g,1,k,row⟩) (h4:∀i,i<dn.length+1->row i=[Qb ((dn++[id]).getD i 0)]):Mc S h p T A leaf n ⟨[(0,.ptr p 0 0 0),(6,.ref lo g 0 k),(7,Qb id)],H⟩:=by
 subst hk;exact⟨⟨id,dn,c,lo,g,row,H,S',b1,b2,b3,c1,c2,c3,Zw,ZQ,Ke,kl,hu,hc,hn,ha,O,hS,h1,h2,hs,h3,h4,rfl⟩⟩
def Qud(T)(A)(leaf)(k):(if k=leaf then none else x7 T A k)=x7 T (JP A leaf) k:=by
 unfold x7 JP;by_cases h:k=leaf
 ·subst h;simp
 ·simp[h,JE]
def Que{S}{h}{p}{T}{A}(O:qM S h p T A)(I:K0 T)(hA:wy T A)(leaf)(c:Qn)(hc:Qy T leaf=some c)(jw:c.leaf=true)(qg:1<QZ c.ls)(XI:leaf∈A)(Jw:Z4 T (JP A leaf) leaf=false):
  MFn prog 231 h [.ptr p 0 0 0,Qb leaf] (λd h'=>∃d1,d=.tup [d1,Qb 0]/\JU h.length h' d1 (WL T (JP A leaf) leaf)/\qM (more S h) h' p T (JP A leaf)/\Step S h h'):=by
 have O0:=O;have hR:=O.toR;obtain⟨b1,b2,b3,c1,c2,c3,Zw,ZQ,Ke,kl,O⟩:=O;have ho:=O.o;have m1:=O.m1;have m2:=O.m2;have m3:=O.m3;have Hm:=Qc m2;have k1:=O.f1.at_ leaf;rw[kb,hc]at k1;simp only[Qg qg,jw,Hj,K6]at k1;have iH:leaf≠0:=λe=>by rw[e,CY I]at hc;cases hc
 have Hn:=L0 hR I hA leaf iH;rw[(He XI leaf).2 (.inl (Xe I hc))]at Hn;have M2:=O.f2.del leaf;refine QU Qh 200 func231 rfl ntmps231 results231 rfl λbase w pl hb=>?_;have Qe:=Qc ho;have kf:=Qc m1;simp only[go_sem,Qa,ho,Qe,m1,kf,k1,Go.undef];refine JJ hb OL Hn λd hR=>?_;subst hR;refine Qf hb ?_;simp only[go_sem,Qa,ho,Qe,m2,Hm,Go.undef];have Pq:Mc S h p T A leaf (up T leaf).length ⟨[(0,.ptr p 0 0 0),(6,.ref h.length 0 0 1),(7,Qb leaf)],h.set b2 (QM .i64 c2 (JB ZQ leaf))++[⟨.arr,0,1,1,λ_=>[Qb leaf]⟩]⟩:=by
  have O2:=((O.step (S':=λl=>S l/\l<h.length) λl h1 h2=>⟨⟨h2,h1⟩,rfl⟩).Qfc (c2':=c2) (A':=JP A leaf) (M2.to λk=>Qud T A leaf k)).app [⟨.arr,0,1,1,λ_=>[Qb leaf]⟩];rw[<- show jt T A []=qc T A from funext λp=>funext λi=>by simp[jt]]at O2;refine Mc.of (λ_=>[Qb leaf]) (λl=>S l/\l<h.length) (dn:=[]) rfl hc (QD _) (λi hi=>?_) O2 (λl h1=>⟨.inl h1.1,by have:=h1.2;simp;omega⟩) (λh1=>by have:=h1.2;omega) (QD _) ⟨λl h1 h2=>?_,by simp⟩ rfl ?_ (λi hi=>?_)
  ·simp only[YT,qA]at hi;rw[hi];exact Jw
  ·rw[QC (by simpa using h1),Qi (λ(e:b2=l)=>h2 (e▸O.s2))]
  ·rw[Ko (by simp)];rfl
  ·obtain rfl:i=0:=by simp at hi;omega
   rfl
 refine IZ (Mc S h p T A leaf) (up T leaf).length QO Pq ?_;clear Pq O m1 m2 m3 ho k1 M2 Hn O0 hR;rintro n s ⟨id,dn,cc,lo,g,row,H,S',b1,b2,b3,c1,c2,c3,Zw,ZQ,Ke,kl,hu,VE,hn,Fs,O,hS,ZE,wD,Jg,zy,Zx,rfl⟩;have ho:=O.o;have m1:=O.m1;have m3:=O.m3;have Qe:=Qc ho;have kf:=Qc m1;have YA:=Qc m3;have Ft:=Qc zy;obtain⟨d0,Fu,JO⟩:=QeB I hc qg id (by rw[hu];exact Iw _ (Xe I VE));rw[VE]at Fu;cases Fu;have k1:=O.f1.at_ id;rw[kb,VE]at k1;simp only[Qg JO]at k1;have k3:=O.f3.at_ cc.parent;have Quf:Z4 T A id=true:=(He XI id).2 (.inl (by rw[hu];exact Iw _ (Xe I VE)));have Qug:id ∉ dn:=λhm=>by
  have nd:=OX I leaf;rw[hu,JF]at nd;exact nd.2.2 id hm id (Xe I VE) rfl
 have Qfi:jt T A dn cc.parent id=true:=LM.2 ⟨vq.2 ⟨cc,VE,rfl,Quf⟩,Qug⟩;have hKn:∀j,j≠cc.parent->∀i,jt T A (dn++[id]) j i=jt T A dn j i:=λj hj i=>by
  rw[kG,LM,LM];constructor
  ·exact λ⟨h1,h2⟩=>⟨h1,λh3=>h2 (Sl _ h3)⟩
  ·rintro⟨h1,h2⟩;refine⟨h1,λh3=>?_⟩;rcases QT.1 h3 with h3|h3
   ·exact h2 h3
   ·rw[qA.1 h3]at h1;obtain⟨e,h4,h5,_⟩:=vq.1 h1;rw[VE]at h4;cases h4;exact hj h5.symm
 cases hk:kl cc.parent with
 | none=>rw[O.kn _ id hk]at Qfi;cases Qfi
 | some l=>
  obtain⟨c,es,ml,fl⟩:=O.ks _ l hk;have vB:=Qc ml;rw[BE,hk,Kt]at k3;obtain⟨n0,n1,n2,n3⟩:=O.nk _ l hk;have iJ:l≠lo:=λe=>ZE (e▸O.sk _ l hk);have M':Kq (JB es id) (wC (jt T A (dn++[id]) cc.parent)):=(fl.del id).to λj=>by
   unfold wC jt;by_cases hj:j=id
   ·simp[hj]
   ·simp[hj]
  have hlen:=U5 M';have O2:=O.Qfd (c':=c) (es':=JB es id) (Kd':=jt T A (dn++[id])) hk M' hKn;have Fv:=Jg.Po (hS l (O.sk _ l hk)).1 (QM .i64 c (JB es id));have Hp:(H.set l (QM .i64 c (JB es id)))[lo]? = some ⟨.arr,g,1,dn.length+1,row⟩:=(Qi iJ).trans zy;have fin:(cc.parent=0\/Z4 T (JP A leaf) cc.parent=true) ->
    JU h.length (H.set l (QM .i64 c (JB es id))) (.ref lo g 0 (dn.length+1)) (WL T (JP A leaf) leaf)/\qM (more S h) (H.set l (QM .i64 c (JB es id))) p T (JP A leaf)/\Step S h (H.set l (QM .i64 c (JB es id))):=λhe=>by
   obtain⟨e1,e2⟩:=Qtq I XI hu VE Fs he;rw[<- e1];refine⟨.inr ⟨lo,g,0,row,by simp,⟨wD,rfl⟩,by simpa using Hp,λi hi=>?_⟩,?_,Fv⟩
   ·rw[JG];exact Zx i (by simpa using hi)
   ·rw[show jt T A (dn++[id])=qc T (JP A leaf) from funext λp=>funext λi=>e2 p i]at O2;exact⟨_,_,_,_,_,_,_,_,_,_,O2.step λl h1 h2=>⟨(hS l h2).1,rfl⟩⟩
  by_cases U7:∃i,jt T A (dn++[id]) cc.parent i=true
  ·have yR:=hlen.2 U7;have d2:decide ((0:Int)<((JB es id).length:Int))=true:=Q7 (by omega);have he:cc.parent=0\/Z4 T (JP A leaf) cc.parent=true:=by
    by_cases h0:cc.parent=0
    ·exact .inl h0
    ·exact .inr ((QeC I hA XI hu VE Fs h0).1 U7)
   refine Qf hb ?_;simp only[go_sem,Qa,ho,Qe,m1,kf,m3,YA,k1,k3,ml,vB,d2,Go.undef,Qi n0,Qi n3,Qv vB];exact⟨_,rfl,fin he⟩
  ·have hz:¬ 0<(JB es id).length:=λh=>U7 (hlen.1 h);have d2:decide ((0:Int)<((JB es id).length:Int))=false:=QQ (by omega);by_cases h0:cc.parent=0
   ·have d0:(cc.parent==0)=true:=by simpa using h0
    refine Qf hb ?_;simp only[go_sem,Qa,ho,Qe,m1,kf,m3,YA,k1,k3,ml,vB,d2,d0,Go.undef,Qi n0,Qi n3,Qv vB];exact⟨_,rfl,fin (.inl h0)⟩
   ·have d0:(cc.parent==0)=false:=by simpa using h0
    have CZ:dn.length<=16:=by
     have e:=congrArg List.length hu;have:=Ar (L:=T) (n:=16) (id:=leaf);rw[ZX]at e;unfold up at e;omega
    obtain⟨d,hd,Qfg⟩:=I.X9 cc (wx I VE) h0;have XM:Z4 T (JP A leaf) cc.parent=false:=by
     rw[zT];exact λhq=>U7 ((QeC I hA XI hu VE Fs h0).2 hq)
    have e1:(dn++[id]).length+1=dn.length+1+1:=by simp
    refine Qf hb ?_;simp only[go_sem,Qa,ho,Qe,m1,kf,m3,YA,k1,k3,ml,vB,d2,d0,Go.undef,Qi n0,Qi n3,Qv vB,Hp,zy,Ft];refine⟨by omega,(up T cc.parent).length,⟨[(0,.ptr p 0 0 0),(6,.ref lo (g+1) 0 (dn.length+1+1)),(7,Qb cc.parent)],_⟩,?_,QO,?_⟩
    ·have:=congrArg List.length (K8 I VE);simp only[Vu]at this;omega
    ·refine Mc.of (J2 (dn.length+1) 0 row λ_=>[Qb cc.parent]) S' (dn:=dn++[id]) ?_ hd (QD _) (λi hi=>?_) (O2.step (λj h1 h2=>⟨h2,?_⟩)) (λj hj=>⟨(hS j hj).1,?_⟩) ZE wD ((Fv.Po (.inr wD) _).iG _) e1.symm ?_ ?_
     ·rw[hu,K8 I VE];simp
     ·rcases QT.1 hi with hi|hi
      ·exact Fs i hi
      ·rw[qA.1 hi];exact XM
     ·rw[QC (by simpa using h1),Qi (λ(e:lo=j)=>ZE (e▸h2))]
     ·have:=(hS j hj).2;simp;omega
     ·rw[QC (by simpa using Ft),Qv (by simpa using Ft)];rfl
     ·intro i hi;have:=G7 (dn:=dn++[id]) (off:=0) (row:=row) (v:=cc.parent) (λi hi=>by rw[JG];exact Zx i (by simpa using hi)) i (by simpa using hi);rw[JG]at this;simpa using this
def Qui{T:List Qn}(hr:Wx T){k}(hk:k<T.length)(j):Qy (T.take (k+1)) j=if j=(T.getD k default).iD then some (T.getD k default) else Qy (T.take k) j:=by
 rw[getD_take T default k hk];unfold Qy;rw[List.find?_append];have Wl:T.getD k default∈T:=jq T default k hk;by_cases h:j=(T.getD k default).iD
 ·rw[Qg h];have:List.find? (λc=>c.iD==j) (T.take k)=none:=by
   rw[zU];intro x hx hxj;have hp:=hr;rw[<- Ei k T]at hp;have h2:=(Sm.1 hp).2.2 x hx (T.getD k default) (by
    rw[Iv hk,Q8,QP hk];exact Va ..)
   simp at hxj;omega
  rw[this];simp[h]
 ·rw[Qd h];have:((T.getD k default).iD==j)=false:=by simpa using Q3 h
  simp only[kJ,this,List.find?_nil,Option.or_none]
def Qfj{h:List Ob}{t}{T}(R:WN h t T)(I:K0 T):MFn prog 70 h [.ptr t 0 0 0] (λd h'=>d=.ptr (h.length+3) 0 0 0/\qM (λl=>h.length<=l) h' (h.length+3) T []/\∃g,h'=h++g):=by
 have hlen:=I.len;have R2:∀g,WN (h++g) t T:=λg=>R.more Fq;refine QU Qh 200 func70 rfl ntmps70 results70 rfl λbase w pl hb=>?_;simp only[go_sem,Qa,Qa];refine JJ hb fG (iE (R2 _) (by omega)) λd hR=>?_;subst hR;apply Q1 hb;refine ZZ (λk st=>∃c es g,Kq es (kb (T.take k))/\st=⟨[(0,.ptr t 0 0 0),(3,.ptr (h.length+3) 0 0 0),(15,ints (T.map (·.iD))),(16,Qb T.length),(17,Qb k)],h++(QM .i64 c es::QM .i64 0 []::QM .i64 0 []::U2 h.length (h.length+1) (h.length+2)::g)⟩) T.length (s0:=⟨[(0,.ptr t 0 0 0),(3,.ptr (h.length+3) 0 0 0),(15,ints (T.map (·.iD))),(16,Qb T.length),(17,Qb 0)],h++(QM .i64 0 []::QM .i64 0 []::QM .i64 0 []::U2 h.length (h.length+1) (h.length+2)::[])⟩) (QI.frame (by simp only[go_sem,J6])) ⟨0,[],[],Kq.nil.to λk=>by simp[kb,Qy],rfl⟩ ?_;rintro k _ hk ⟨c,es,g,M,rfl⟩;by_cases Qs:k<T.length
 ·have dk:=Q7 Qs;have hg:(T.map (·.iD)).getD k 0=(T.getD k default).iD:=getD_map _ _ _ _ _ Qs;have Wl:T.getD k default∈T:=jq T default k Qs;have hf:Qy T (T.getD k default).iD=some (T.getD k default):=(Wy I.rising).2 ⟨Wl,rfl⟩;have hft:=Qui I.rising Qs;obtain⟨x,hx⟩:∃x,x=T.getD k default:=⟨_,rfl⟩;rw[<- hx]at hg Wl hf hft;have X2:=λg=>LZ (R2 g) x.iD;rw[hf]at X2;simp only[KS,jP,K6]at X2;have Zf:∀j,kb (T.take (k+1)) j=if j=x.iD then (if 1<QZ x.ls then some (.agg [Qb x.parent,Qb (Hj x.leaf)]) else none) else kb (T.take k) j:=λj=>by
   unfold kb;rw[hft];by_cases hj:j=x.iD
   ·simp[hj]
   ·simp[hj]
  have eP:kb (T.take k) x.iD=none:=by
   unfold kb;have:Qy (T.take k) x.iD=none:=by
    rw[Ff];intro y hy e;have hp:=I.rising;rw[<- Ei k T]at hp;have h2:=(Sm.1 hp).2.2 y hy x (by
     rw[Iv Qs,hx,Q8,QP Qs];exact Va ..)
    omega
   rw[this]
  refine Qf hb ?_;simp only[go_sem,Qa,dk,Qs,hg,J6];refine JJ hb j4 (X2 _) λd hR=>?_;subst hR;apply Q1 hb;refine Ax hb j5 (j6 x) (Qo.flat rfl) λd h hR=>?_;obtain⟨rfl,rfl⟩:=hR;apply Q1 hb;by_cases hs:1<QZ x.ls
  ·have ds:=Q7 hs;simp only[Qg hs]at Zf;obtain⟨c',es',e1,M'⟩:=M.set .i64 c x.iD (.agg [Qb x.parent,Qb (Hj x.leaf)]);simp only[go_sem]at e1;have M2:=M'.to λj=>(Zf j).symm;have Zq:=Vp (show k<4611686018427387904 by omega);cases hl:x.leaf with
   | true=>
    rw[hl]at e1;simp only[Hj,K6]at e1;simp only[go_sem,Qa,ds,hl];apply QH hb [0,1,2,3,4,5,1006];simp only[go_sem,Qa,hl];simp only[e1];exact⟨Qs,_,QI.frame (by simp only[go_sem,Zq]),c',es',_,M2,rfl⟩
   | false=>
    rw[hl]at e1;simp only[Hj]at e1;simp only[go_sem,Qa,ds,hl];apply QH hb [0,1,2,3,4,5,1006];simp only[go_sem,Qa,hl];simp only[Yn,kQ]at e1;simp only[e1];exact⟨Qs,_,QI.frame (by simp only[go_sem,Zq]),c',es',_,M2,rfl⟩
  ·have ds:=QQ hs;simp only[Qd hs]at Zf;have Zq:=Vp (show k<4611686018427387904 by omega);simp only[go_sem,Qa,ds];refine⟨Qs,_,QI.frame (by simp only[go_sem,Zq]),c,es,_,M.to λj=>?_,rfl⟩;rw[Zf];by_cases hj:j=x.iD
   ·rw[Qg hj,hj,eP]
   ·rw[Qd hj]
 ·have ZW:k=T.length:=by omega
  have dk:=QQ Qs;rw[ZW,zW]at M;refine Qf hb ?_;simp only[go_sem,Qa,dk];apply Q1 hb;refine⟨⟨h.length,h.length+1,h.length+2,c,0,0,es,[],[],λ_=>none,KX rfl,Ko rfl,M,KX rfl,Kq.nil.to (λj=>by simp[x7]),KX rfl,Kq.nil.to (λj=>rfl),(λ_ _ e=>nomatch e),(λk i _=>by simp[qc,Z4]),(λ_ _ _ e=>nomatch e),by omega,by omega,by omega,by omega,by omega,by omega,(λ_ _ e=>nomatch e),by show h.length<=_;omega,QD _,by show h.length<=_;omega,by show h.length<=_;omega,(λ_ _ e=>nomatch e)⟩,_,rfl⟩
@[go_sem] def Dm(a m:Nat):Ob:=⟨.one,0,2,1,λ_=>[.ptr a 0 0 0,.mref m 0]⟩
def BF(x:It):Int × D:=(x.ki,.agg x.cells)
structure Hq (S:Nat->Prop) (h:List Ob) (p a m:Nat) (t:Tr) (c:Nat) (es:List QR) (L:List It):Prop where
 o:h[p]? = some (Dm a m)
 av:x5 h a t L
 mo:h[m]? = some (QM .i64 c es)
 mp:Xv es (L.map BF)
 vi:∀x∈L,x.vi=x.ki
 pa:p≠a
 pm:p≠m
 am:a≠m
 pt:p ∉ t.QJ
 mt:m ∉ t.QJ
 sp:S p
 sa:S a
 sm:S m
 st:∀l∈t.QJ,S l
def V7(S:Nat->Prop)(h:List Ob)(p:Nat)(L:List It):Prop:=∃a m t c es,Hq S h p a m t c es L
def iK{L:List It}(id:Int):look (L.map BF) id=(L.find? λx=>x.ki==id).map λx=>.agg x.cells:=by
 unfold look;rw[List.find?_map,NO];rfl
def KF(id:Int)(L:List It):List It:=L.filter λx=>x.ki != id
def Xw(id:Int)(vt fit:Nat)(L:List It):List It:=Xu ⟨vt,id,fit,id⟩ (KF id L)
def Hq.ids{S}{h}{p a m}{t}{c}{es}{L:List It}(T:Hq S h p a m t c es L):(L.map It.ki).Nodup:=by
 have:=T.mp.nd;rwa [Ef]at this
def iL{L:List It}(hn:(L.map It.ki).Nodup){x:It}(hx:x∈L):WM x.ka x.ki L=KF x.ki L:=by
 unfold WM KF;apply Si;intro y hy;by_cases h:y.ki=x.ki
 ·have jR:y=x:=by
   have:∀{l:List It},(l.map It.ki).Nodup->∀{u v:It},u∈l->v∈l->u.ki=v.ki->u=v:=by
    intro l;induction l with
    | nil=>intro _ u v hu;cases hu
    | cons a l ih=>
     intro hn u v hu hv e;simp only[Jz,ZK,Jn,Cg,not_and]at hn;rcases QF.1 hu with h1|h1<;>rcases QF.1 hv with h2|h2
     ·rw[h1,h2]
     ·exact absurd (by rw[<- e,h1]) (hn.1 v h2)
     ·exact absurd (by rw[e,h2]) (hn.1 u h1)
     ·exact ih hn.2 h1 h2 e
   exact this hn hy hx h
  subst jR;simp[Av]
 ·have hb:(y.ki==x.ki)=false:=by simpa using h
  simp[Av,hb,bne]
def iM{L:List It}{id}(h:(L.find? λx=>x.ki==id)=none):KF id L=L:=by
 unfold KF;rw[xi];intro x hx;have:=zU.1 h x hx;simpa using this
def iN(L)(a)(id):XL a id (KF id L)=none:=by
 unfold XL KF;rw[zU];intro x hx hk;simp only[JE,bne_iff_ne,ne_eq]at hx;exact hx.2 (vu.1 hk).2
def Qfl(y):∀L:List It,(Xu y L).Perm (y::L)
 | []=>Iu _
 | z::L=>by
  simp only[Xu];split
  ·exact(List.Perm.cons _ (Qfl y L)).trans (List.Perm.swap _ _ _)
  ·exact Iu _
def iO(id)(L:List It):Ay (L.map BF) id=(KF id L).map BF:=by
 unfold Ay KF;rw[NF];rfl
def x5.set{h:List Ob}{tl}{t:Tr}{L}(A:x5 h tl t L){m}(o)(h1:m≠tl)(h2:m ∉ t.QJ):x5 (h.set m o) tl t L:=⟨(Qi h1).trans A.o,A.is.set o h2,A.list,A.nd,A.out,A.sorted⟩
def Quk{id:Int}{vt fit}{L:List It}:(Dg (L.map BF) id (.agg (It.mk vt id fit id).cells)).Perm ((Xw id vt fit L).map BF):=by
 unfold Dg Xw;rw[iO];exact((Qfl ⟨vt,id,fit,id⟩ (KF id L)).map BF).symm
def iP(id)(L:List It):(KF id L).length<=L.length:=Yo _ _
def Hq.fin{S}{h H H2 h8}{p a m c c'}{t t' t''}{es es'}{L L2}(T:Hq S h p a m t c es L)(s0:Step S h H)
  (hp:H[p]? = some (Dm a m)) (hm:m<H.length) (hH:H2=H.set m (QM .i64 c' es')) (mt:m ∉ t'.QJ) (pt:p ∉ t'.QJ) (st:∀l∈t'.QJ,more S h l) (jW:Xv es' (L2.map BF)) (hvi:∀x∈L2,x.vi=x.ki)
  (A:Pg H2 a t' L2 h8 t''):V7 (more S h) h8 p L2/\Step S h h8:=by
 have e2:H2.length=H.length:=by rw[hH,Ki]
 have hl:=s0.len;have UQ:H2[p]? = some (Dm a m):=by rw[hH,Qi (Q3 T.pm)];exact hp
 have Wg:H2[m]? = some (QM .i64 c' es'):=by rw[hH,Qv hm]
 have JH:∀l,H2.length<=l->h.length<=l:=λl h1=>by omega
 have Zf:=Qc T.o;have xC:=Qc T.mo;refine⟨⟨a,m,t'',c',es',?_,A.is,?_,jW,hvi,T.pa,T.pm,T.am,?_,?_,.inl T.sp,.inl T.sa,.inl T.sm,?_⟩,⟨λl h1 h2=>?_,by have:=A.len;omega⟩⟩
 ·rw[A.keep p (by omega) T.pa pt];exact UQ
 ·rw[A.keep m (by omega) (Q3 T.am) mt];exact Wg
 ·intro h1;rcases A.mem p h1 with h2|h2
  ·exact pt h2
  ·omega
 ·intro h1;rcases A.mem m h1 with h2|h2
  ·exact mt h2
  ·omega
 ·intro l h1;rcases A.mem l h1 with h2|h2
  ·exact st l h2
  ·exact .inr (JH l h2)
 ·have na:l≠a:=by rintro rfl;exact h2 T.sa
  have nm:l≠m:=by rintro rfl;exact h2 T.sm
  have nt:l ∉ t'.QJ:=λh3=>by
   rcases st l h3 with h4|h4
   ·exact h2 h4
   ·omega
  rw[A.keep l (by omega) na nt,hH,Qi (Q3 nm)];exact s0.keep l h1 h2
def Hq.done{S}{h H H2 h8}{p a m c c'}{t t' t''}{es es'}{L}{id}{vt fit}(T:Hq S h p a m t c es L)(s0:Step S h H)
  (hp:H[p]? = some (Dm a m)) (hm:m<H.length) (hH:H2=H.set m (QM .i64 c' es')) (mt:m ∉ t'.QJ) (pt:p ∉ t'.QJ) (st:∀l∈t'.QJ,more S h l) (jW:Xv es' (Dg (L.map BF) id (.agg (It.mk vt id fit id).cells)))
  (A:Pg H2 a t' (Xw id vt fit L) h8 t''):V7 (more S h) h8 p (Xw id vt fit L)/\Step S h h8:=
 T.fin s0 hp hm hH mt pt st (jW.to Quk) (λx hx=>by
  rcases Fp.1 hx with rfl|hx
  ·rfl
  ·exact T.vi x (JE.1 hx).1) A
def Qum{S}{h}{p}{L:List It}(T:V7 S h p L)(id)(vt fit)(hs:L.length<400000):
  MFn prog 223 h [.ptr p 0 0 0,Qb id,u64 vt,u64 fit] (λd h'=>V7 (more S h) h' p (Xw id vt fit L)/\Step S h h'):=by
 obtain⟨a,m,t,c,es,T⟩:=T;have ho:=T.o;have Xf:=T.mo;have ha:=T.av.o;have hk:=T.mp.look id;rw[iK]at hk;cases hf:L.find? λx=>x.ki==id with
 | none=>
  rw[hf,YU]at hk;have YB:=iM hf;obtain⟨c',es',e1,M'⟩:=T.mp.set .i64 c id (.agg (It.mk vt id fit id).cells);have e2:JI .i64 c es id (.agg [.raw (.int .u64 vt),.raw (.int .i64 id),.raw (.int .u64 fit),.raw (.int .i64 id)])=QM .i64 c' es':=e1;refine QU Qh 200 func223 rfl ntmps223 results223 rfl λbase w pl hb=>?_;have Qe:=Qc ho;have Xg:=Qc Xf;simp only[go_sem,Qa,ho,Qe,Xf,Xg,hk];apply QH hb [0,1,2,3,4,5,1006];simp only[go_sem,Qa,ho,Qe,Xf,Xg];simp only[e2];apply KL [8] hb [0,1,2,3,4,5,6,7,1008,9] [];simp only[go_sem,Qa,ho,Qe,Xf,Xg,Qi (Q3 T.pm)];refine j9 hb fU (Ph (tl:=a) (t:=t) (L:=KF id L) (by rw[YB];exact(T.av.set _ (Q3 T.am) T.mt).app _) ⟨vt,id,fit,id⟩ (iN L vt id) (by have:=iP id L;omega)) λd h8 hR=>?_;obtain⟨rfl,t'',A8⟩:=hR;apply XN hb;exact T.done (H:=h++_) (Step.app S h _) (QC Qe |>.trans ho) (by simp;omega) (Bt Xg).symm T.mt T.pt (λl hl=>.inl (T.st l hl)) M' A8
 | some x=>
  rw[hf,Kt]at hk;obtain⟨c',es',e1,M'⟩:=T.mp.set .i64 c id (.agg (It.mk vt id fit id).cells);have e2:JI .i64 c es id (.agg [.raw (.int .u64 vt),.raw (.int .i64 id),.raw (.int .u64 fit),.raw (.int .i64 id)])=QM .i64 c' es':=e1;refine QU Qh 200 func223 rfl ntmps223 results223 rfl λbase w pl hb=>?_;have Qe:=Qc ho;have Xg:=Qc Xf;simp only[go_sem,Qa,ho,Qe,Xf,Xg,hk];apply KL [6] hb [0,1,2,3,4,5,1006] [];simp only[go_sem,Qa,ho,Qe];have Wl:x∈L:=xk hf;have Zk:x.ki=id:=by have:=vR hf;simpa using this
  have Pt:WM x.ka id L=KF id L:=by rw[<- Zk];exact iL T.ids Wl
  have QB:XL x.ka id L≠none:=λe=>by
   unfold XL at e;have:=zU.1 e x Wl;exact this (vu.2 ⟨rfl,Zk⟩)
  have iQ:∀l∈t.QJ,l<h.length:=T.av.is.lt;have JD:=Qc ha;refine wB hb fY rfl ?_ (iz (tl:=a) (t:=t) (L:=L) (T.av.app _) x.ka id QB (by omega)) rfl λd h6 hR=>?_
  ·simp only[go_sem,Zk]
  obtain⟨rfl,t',A6⟩:=hR;rw[Pt]at A6;have QEi:h.length+2<=h6.length:=by have:=A6.len;simpa using this
  have k6:∀l,l<h.length->l≠a->l ∉ t.QJ->h6[l]? = h[l]? := λl h1 h2 h3=>(A6.keep l (by simp;omega) h2 h3).trans (QC h1);have U8:h6[p]? = _:=(k6 p Qe T.pa T.pt).trans ho;have iR:h6[m]? = _:=(k6 m Xg (Q3 T.am) T.mt).trans Xf;have Fw:=(A6.keep h.length (by simp) (by omega) (λh1=>by have:=iQ _ h1;omega)).trans (Ko rfl);have Qfm:=Qc U8;have iS:=Qc iR;have Md:=Qc Fw;have mt6:m ∉ t'.QJ:=λh1=>by
   rcases A6.mem m h1 with h2|h2
   ·exact T.mt h2
   ·simp only[ZX]at h2;omega
  have pt6:p ∉ t'.QJ:=λh1=>by
   rcases A6.mem p h1 with h2|h2
   ·exact T.pt h2
   ·simp only[ZX]at h2;omega
  have Dn:m≠h.length:=by omega
  apply XN hb;apply QH hb [0,1,2,3,4,5,1006];simp only[go_sem,Qa,U8,Qfm,iR,iS,Fw,Md];simp only[e2];apply KL [8] hb [0,1,2,3,4,5,6,7,1008,9] [];simp only[go_sem,Qa,U8,Qfm,iR,iS,Fw,Md,Qi (Q3 T.pm),Qi Dn];refine j9 hb fU (Ph (tl:=a) (t:=t') (L:=KF id L) (A6.is.set _ (Q3 T.am) mt6) ⟨vt,id,fit,id⟩ (iN L vt id) (by have:=iP id L;omega)) λd h8 hR=>?_;obtain⟨rfl,t'',A8⟩:=hR;apply XN hb;refine T.done (H:=h6) ⟨λl h1 h2=>k6 l h1 (by rintro rfl;exact h2 T.sa) (λh3=>h2 (T.st l h3)),by omega⟩ U8 iS rfl mt6 pt6 (λl hl=>?_) M' A8;rcases A6.mem l hl with h1|h1
  ·exact .inl (T.st l h1)
  ·simp only[ZX]at h1;exact .inr (by omega)
def KM{h F:List Ob}(hF:F=h.map Ob.ro)(l:Nat)(o:Ob)(e:(h.map Ob.ro)[l]? = some o):(F.map Ob.ro)[l]? = some o:=by
 have:=Fm (g:=[]) hF l o e;rwa [Zd]at this
structure Quo (h:List Ob) (p a m:Nat) (t:Tr) (c:Nat) (es:List QR) (L:List It):Prop where
 o:(h.map Ob.ro)[p]? = some (Dm a m).ro
 ao:(h.map Ob.ro)[a]? = some (vA t).ro
 is:qI h t
 list:t.list=L
 sorted:KD L
 mo:(h.map Ob.ro)[m]? = some (QM .i64 c es).ro
 mp:Xv es (L.map BF)
def Dp(h:List Ob)(p:Nat)(L:List It):Prop:=∃a m t c es,Quo h p a m t c es L
def V7.toR{S}{h}{p}{L}:V7 S h p L->Dp h p L:=λ⟨a,m,t,c,es,T⟩=>
 ⟨a,m,t,c,es,ZM T.o,ZM T.av.o,T.av.is.toR,T.av.list,T.av.sorted,ZM T.mo,T.mp⟩
def Dp.more{h h':List Ob}{p}{L}(e:∀(l:Nat) (o:Ob),(h.map Ob.ro)[l]? = some o->(h'.map Ob.ro)[l]? = some o):Dp h p L->Dp h' p L:=λ⟨a,m,t,c,es,T⟩=>
 ⟨a,m,t,c,es,e _ _ T.o,e _ _ T.ao,T.is.more e,T.list,T.sorted,e _ _ T.mo,T.mp⟩
def V7.frame{S}{h h':List Ob}{p}{L}(e:∀l,S l->l<h.length->h'[l]? = h[l]?):V7 S h p L->V7 S h' p L:=λ⟨a,m,t,c,es,T⟩=>
 have k:∀l o,S l->h[l]? = some o->h'[l]? = some o:=λl o h1 h2=>(e l h1 (Qc h2)).trans h2
 ⟨a,m,t,c,es,k _ _ T.sp T.o,⟨k _ _ T.sa T.av.o,T.av.is.frame λl hl=>e l (T.st l hl) (T.av.is.lt l hl),T.av.list,T.av.nd,T.av.out,T.av.sorted⟩,k _ _ T.sm T.mo,T.mp,T.vi,T.pa,T.pm,T.am,T.pt,T.mt,T.sp,T.sa,T.sm,T.st⟩
def V7.mono{S S'}{h}{p}{L}(e:∀l,S l->S' l):V7 S h p L->V7 S' h p L:=λ⟨a,m,t,c,es,T⟩=>
 ⟨a,m,t,c,es,T.o,T.av,T.mo,T.mp,T.vi,T.pa,T.pm,T.am,T.pt,T.mt,e _ T.sp,e _ T.sa,e _ T.sm,λl hl=>e l (T.st l hl)⟩
section
variable {h:List Ob}{p:Nat}{L:List It}(T:Dp h p L)
include T
theorem Qup(now):Zg prog 225 h [.ptr p 0 0 0,u64 now] (λd=>d=.tup [Qb ((L.find? λx=>decide (x.va<=min now 9223372036854775807)).getD default).ki,QY (L.find? λx=>decide (x.va<=min now 9223372036854775807)).isSome]):=by
 obtain⟨a,m,t,c,es,T⟩:=T;obtain⟨ho,ha,is,hl,hs,hm,mp⟩:=T;have e1:min (now:Int) 9223372036854775807=((min now 9223372036854775807:Nat):Int):=by omega
 have vW:=ha;refine Zt Qh 200 func225 rfl ntmps225 results225 rfl λbase w pl F hF Za hb=>?_;rw[<- hF]at ho ha;have Qe:=Qc ho;have JD:=Qc ha;simp only[go_sem,Qa,ho,Qe,ha,JD,e1];refine JJ hb Qsq (QtZ (KM hF _ _ vW) (is.more (KM hF)) (min now 9223372036854775807)) λd hR=>?_;subst hR;refine Qf hb ?_;simp only[go_sem,Qa,ho,Qe];subst hl;exact⟨_,rfl,rfl⟩
theorem Quq:Zg prog 169 h [.ptr p 0 0 0] (λd=>d=.tup [u64 (L.head?.getD default).ka,QY L.head?.isSome]):=by
 obtain⟨a,m,t,c,es,T⟩:=T;obtain⟨ho,ha,is,hl,hs,hm,mp⟩:=T;have vW:=ha;refine Zt Qh 200 func169 rfl ntmps169 results169 rfl λbase w pl F hF Za hb=>?_;rw[<- hF]at ho ha;have Qe:=Qc ho;have JD:=Qc ha;simp only[go_sem,Qa,ho,Qe,ha,JD];refine JJ hb QdI (Qe1 (KM hF _ _ vW) (is.more (KM hF))) λd hR=>?_;subst hR;refine Qf hb ?_;simp only[go_sem,Qa,ho,Qe];subst hl;exact⟨_,rfl,rfl⟩
theorem iT:Zg prog 145 h [.ptr p 0 0 0] (λd=>d=Qb L.length):=by
 obtain⟨a,m,t,c,es,T⟩:=T;obtain⟨ho,ha,is,hl,hs,hm,mp⟩:=T;have e1:es.length=L.length:=by rw[mp.len,J6]
 refine Zt Qh 200 func145 rfl ntmps145 results145 rfl λbase w pl F hF Za hb=>?_;rw[<- hF]at ho ha hm;have Qe:=Qc ho;have JD:=Qc ha;have QK:=Qc hm;simp only[go_sem,Qa,ho,Qe,ha,JD,hm,QK,e1];exact⟨[],by simp⟩
def Az(L:List It):Nat:=L.foldl (λo x=>min o x.va) never
omit T in
theorem iU:∀(L:List It) (o:Nat),L.foldl (λo x=>min o x.va) o<=o/\(∀x∈L,L.foldl (λo x=>min o x.va) o<=x.va)/\(L.foldl (λo x=>min o x.va) o=o\/∃x∈L,L.foldl (λo x=>min o x.va) o=x.va)
 | [],o=>⟨QD _,by simp,.inl rfl⟩
 | y::L,o=>by
  obtain⟨h1,h2,h3⟩:=iU L (min o y.va);simp only[xj];refine⟨by omega,λx hx=>?_,?_⟩
  ·rcases QF.1 hx with rfl|hx
   ·omega
   ·exact h2 x hx
  ·rcases h3 with h3|⟨x,hx,h3⟩
   ·rw[h3];by_cases hle:o<=y.va
    ·exact .inl (Nat.min_eq_left hle)
    ·exact .inr ⟨y,by simp,Nat.min_eq_right (by omega)⟩
   ·exact .inr ⟨x,by simp[hx],h3⟩
omit T in
theorem Qur{x:It}{L}(h:Vq x L):Az L=min x.va never:=by
 obtain⟨h1,h2,h3⟩:=iU L never;unfold Az;have h4:=h2 x h.mem;rcases h3 with h3|⟨y,hy,h3⟩
 ·omega
 ·have:=h.va hy;omega
theorem Qfo(hk:∀x∈L,x.ka<=18446744073709551615):Zg prog 90 h [.ptr p 0 0 0] (λd=>d=u64 (Az L)):=by
 have T0:=T;obtain⟨a,m,t,c,es,T⟩:=T;obtain⟨ho,ha,is,hl,hs,hm,mp⟩:=T;have vW:=ha;by_cases hn:L=[]
 ·have d0:((L.length:Int)==0)=true:=by simp[hn]
  refine Zt Qh 200 func90 rfl ntmps90 results90 rfl λbase w pl F hF Za hb=>?_;rw[<- hF]at ho ha;have Qe:=Qc ho;have JD:=Qc ha;simp only[go_sem,Qa,ho,Qe,ha,JD];refine ZT hb fM rfl ?_ (iT (T0.more (KM hF))) rfl λd hR=>?_
  ·simp only[go_sem,Qa,ho,Qe,d0]
  subst hR;refine Qf hb ?_;simp only[go_sem,Qa,ho,Qe,d0];subst hn;exact⟨[],by simp[Az,never]⟩
 ·have d0:((L.length:Int)==0)=false:=by simp[hn]
  refine Zt Qh 200 func90 rfl ntmps90 results90 rfl λbase w pl F hF Za hb=>?_;rw[<- hF]at ho ha;have Qe:=Qc ho;have JD:=Qc ha;simp only[go_sem,Qa,ho,Qe,ha,JD];refine ZT hb fM rfl ?_ (iT (T0.more (KM hF))) rfl λd hR=>?_
  ·simp only[go_sem,Qa,ho,Qe,d0]
  subst hR;refine Qf hb ?_;simp only[go_sem,Qa,ho,Qe,d0];refine Qf hb ?_;simp only[go_sem,Qa,ho,Qe];refine JJ hb QdJ (Qe3 (KM hF _ _ vW) (is.more (KM hF)) 18446744073709551615) λd hR=>?_;subst hR;refine Qf hb ?_;simp only[go_sem,Qa,ho,Qe];have ZB:=Tr.O6 18446744073709551615 t none [] (by rw[hl];exact hs) rfl;rw[hl,YT,xi.2 (λx hx=>by simpa using hk x hx)]at ZB;refine⟨_,rfl,?_⟩;cases Qfp:t.qJ 18446744073709551615 none with
  | none=>rw[Qfp]at ZB;exact absurd ZB hn
  | some x=>
   rw[Qfp]at ZB;rw[Qur ZB];simp only[KS,never];congr 2;omega
end
def U9(id:Int)(L:List It):Bool:=(L.find? λx=>x.ki==id).isSome
def Qus{S}{h}{p}{L:List It}(T:V7 S h p L)(id)(hs:L.length<400000):
  MFn prog 232 h [.ptr p 0 0 0,Qb id] (λd h'=>d=Qb (if U9 id L then 0 else 6)/\V7 (more S h) h' p (KF id L)/\Step S h h'):=by
 have T0:=T;obtain⟨a,m,t,c,es,T⟩:=T;have ho:=T.o;have Xf:=T.mo;have ha:=T.av.o;have hk:=T.mp.look id;rw[iK]at hk;unfold U9;cases hf:L.find? λx=>x.ki==id with
 | none=>
  rw[hf,YU]at hk;refine QU Qh 200 func232 rfl ntmps232 results232 rfl λbase w pl hb=>?_;have Qe:=Qc ho;have Xg:=Qc Xf;simp only[go_sem,Qa,ho,Qe,Xf,Xg,hk];rw[iM hf];exact⟨rfl,(T0.frame λl h1 h2=>QC h2).mono λl hl=>.inl hl,Step.app S h _⟩
 | some x=>
  rw[hf,Kt]at hk;have Wl:x∈L:=xk hf;have Zk:x.ki=id:=by have:=vR hf;simpa using this
  have Pt:WM x.ka id L=KF id L:=by rw[<- Zk];exact iL T.ids Wl
  have QB:XL x.ka id L≠none:=λe=>by
   unfold XL at e;have:=zU.1 e x Wl;exact this (vu.2 ⟨rfl,Zk⟩)
  have iQ:∀l∈t.QJ,l<h.length:=T.av.is.lt;have JD:=Qc ha;have M':=T.mp.del id;rw[iO]at M';refine QU Qh 200 func232 rfl ntmps232 results232 rfl λbase w pl hb=>?_;have Qe:=Qc ho;have Xg:=Qc Xf;simp only[go_sem,Qa,ho,Qe,Xf,Xg,hk];apply KL [6] hb [0,1,2,3,4,5,1006,7] [];simp only[go_sem,Qa,ho,Qe,Xf,Xg,Qi (Q3 T.pm)];refine wB hb fY rfl ?_ (iz (tl:=a) (t:=t) (L:=L) ((T.av.set _ (Q3 T.am) T.mt).app _) x.ka id QB (by omega)) rfl λd h6 hR=>?_
  ·simp only[go_sem,Zk]
  obtain⟨rfl,t',A6⟩:=hR;rw[Pt]at A6;apply XN hb;exact⟨rfl,T.fin (H:=h++_) (Step.app S h _) ((QC Qe).trans ho) (by simp;omega) (Bt Xg).symm T.mt T.pt (λl hl=>.inl (T.st l hl)) M' (λy hy=>T.vi y (JE.1 hy).1) A6⟩
def Qfq(h:List Ob):MFn prog 117 h [] (λd h'=>d=.ptr h.length 0 0 0/\h'=h++[vA .nil]):=by
 refine QU Qh 200 func117 rfl ntmps117 results117 rfl λbase w pl hb=>?_;simp only[go_sem,Qa]
def Qfr{S}{h}{p}{L:List It}(T:V7 S h p L)(id)(hs:L.length<400000):
  MFn prog 219 h [.ptr p 0 0 0,Qb id] (λd h'=>d=Qb (if U9 id L then 0 else 6)/\V7 (more S h) h' p (KF id L)/\Step S h h'):=by
 have T0:=T;obtain⟨a,m,t,c,es,T⟩:=T;have ho:=T.o;have Xf:=T.mo;have ha:=T.av.o;have hk:=T.mp.look id;rw[iK]at hk;unfold U9;cases hf:L.find? λx=>x.ki==id with
 | none=>
  rw[hf,YU]at hk;refine QU Qh 200 func219 rfl ntmps219 results219 rfl λbase w pl hb=>?_;have Qe:=Qc ho;have Xg:=Qc Xf;simp only[go_sem,Qa,ho,Qe,Xf,Xg,hk];rw[iM hf];exact⟨rfl,(T0.frame λl h1 h2=>QC h2).mono λl hl=>.inl hl,Step.app S h _⟩
 | some x=>
  rw[hf,Kt]at hk;have Wl:x∈L:=xk hf;have Zk:x.ki=id:=by have:=vR hf;simpa using this
  have Pt:WM x.ka id L=KF id L:=by rw[<- Zk];exact iL T.ids Wl
  have QB:XL x.ka id L≠none:=λe=>by
   unfold XL at e;have:=zU.1 e x Wl;exact this (vu.2 ⟨rfl,Zk⟩)
  have iQ:∀l∈t.QJ,l<h.length:=T.av.is.lt;have JD:=Qc ha;have M':=T.mp.del id;rw[iO]at M';refine QU Qh 200 func219 rfl ntmps219 results219 rfl λbase w pl hb=>?_;have Qe:=Qc ho;have Xg:=Qc Xf;simp only[go_sem,Qa,ho,Qe,Xf,Xg,hk];apply KL [6] hb [0,1,2,3,4,5,1006,7] [];simp only[go_sem,Qa,ho,Qe,Xf,Xg,Qi (Q3 T.pm)];refine wB hb fY rfl ?_ (iz (tl:=a) (t:=t) (L:=L) ((T.av.set _ (Q3 T.am) T.mt).app _) x.ka id QB (by omega)) rfl λd h6 hR=>?_
  ·simp only[go_sem,Zk]
  obtain⟨rfl,t',A6⟩:=hR;rw[Pt]at A6;apply XN hb;exact⟨rfl,T.fin (H:=h++_) (Step.app S h _) ((QC Qe).trans ho) (by simp;omega) (Bt Xg).symm T.mt T.pt (λl hl=>.inl (T.st l hl)) M' (λy hy=>T.vi y (JE.1 hy).1) A6⟩
section
variable {h:List Ob}{p:Nat}{L:List It}(T:Dp h p L)
include T
theorem Qfs:Zg prog 143 h [.ptr p 0 0 0] (λd=>d=Qb L.length):=by
 obtain⟨a,m,t,c,es,T⟩:=T;obtain⟨ho,ha,is,hl,hs,hm,mp⟩:=T;have e1:es.length=L.length:=by rw[mp.len,J6]
 refine Zt Qh 200 func143 rfl ntmps143 results143 rfl λbase w pl F hF Za hb=>?_;rw[<- hF]at ho ha hm;have Qe:=Qc ho;have JD:=Qc ha;have QK:=Qc hm;simp only[go_sem,Qa,ho,Qe,ha,JD,hm,QK,e1];exact⟨[],by simp⟩
theorem Qut(now):Zg prog 224 h [.ptr p 0 0 0,u64 now] (λd=>∃o,wz o (L.filter λx=>decide (x.ka<=min now 9223372036854775807))/\d=.tup [Qb (o.getD default).ki,QY o.isSome]):=by
 obtain⟨a,m,t,c,es,T⟩:=T;obtain⟨ho,ha,is,hl,hs,hm,mp⟩:=T;have e1:min (now:Int) 9223372036854775807=((min now 9223372036854775807:Nat):Int):=by omega
 have vW:=ha;have ZB:=Tr.O6 (min now 9223372036854775807) t none [] (by rw[hl];exact hs) rfl;rw[hl,YT]at ZB;refine Zg.mono (R:=λd=>d=.tup [Qb ((t.qJ (min now 9223372036854775807) none).getD default).ki,QY (t.qJ (min now 9223372036854775807) none).isSome]) ?_ (λd hd=>⟨_,ZB,hd⟩);refine Zt Qh 200 func224 rfl ntmps224 results224 rfl λbase w pl F hF Za hb=>?_;rw[<- hF]at ho ha;have Qe:=Qc ho;have JD:=Qc ha;simp only[go_sem,Qa,ho,Qe,ha,JD,e1];refine JJ hb QdJ (Qe3 (KM hF _ _ vW) (is.more (KM hF)) (min now 9223372036854775807)) λd hR=>?_;subst hR;refine Qf hb ?_;simp only[go_sem,Qa,ho,Qe];exact⟨_,rfl⟩
theorem Quu:Zg prog 89 h [.ptr p 0 0 0] (λd=>d=u64 (match L.head? with|some x=>min x.ka never|none=>never)):=by
 have T0:=T;obtain⟨a,m,t,c,es,T⟩:=T;obtain⟨ho,ha,is,hl,hs,hm,mp⟩:=T;have vW:=ha;cases hL:L with
 | nil=>
  have d0:((L.length:Int)==0)=true:=by simp[hL]
  refine Zt Qh 200 func89 rfl ntmps89 results89 rfl λbase w pl F hF Za hb=>?_;rw[<- hF]at ho ha;have Qe:=Qc ho;have JD:=Qc ha;simp only[go_sem,Qa,ho,Qe,ha,JD];refine ZT hb QdH rfl ?_ (Qfs (T0.more (KM hF))) rfl λd hR=>?_
  ·simp only[go_sem,Qa,ho,Qe,d0]
  subst hR;refine Qf hb ?_;simp only[go_sem,Qa,ho,Qe,d0];exact⟨[],by simp[never]⟩
 | cons x M=>
  have d0:((L.length:Int)==0)=false:=by simp[hL];omega
  refine Zt Qh 200 func89 rfl ntmps89 results89 rfl λbase w pl F hF Za hb=>?_;rw[<- hF]at ho ha;have Qe:=Qc ho;have JD:=Qc ha;simp only[go_sem,Qa,ho,Qe,ha,JD];refine ZT hb QdH rfl ?_ (Qfs (T0.more (KM hF))) rfl λd hR=>?_
  ·simp only[go_sem,Qa,ho,Qe,d0]
  subst hR;refine Qf hb ?_;simp only[go_sem,Qa,ho,Qe,d0];refine Qf hb ?_;simp only[go_sem,Qa,ho,Qe];refine JJ hb QdI (Qe1 (KM hF _ _ vW) (is.more (KM hF))) λd hR=>?_;subst hR;refine Qf hb ?_;simp only[go_sem,Qa,ho,Qe];refine⟨_,rfl,?_⟩;rw[hl,hL];congr 2;show min (x.ka:Int) 9223372036854775808=((min x.ka never:Nat):Int);simp only[never];omega
end
def Qft{S}{h}{p}{L:List It}(T:V7 S h p L)(id)(vt fit)(hs:L.length<400000):
  MFn prog 168 h [.ptr p 0 0 0,Qb id,u64 vt,u64 fit] (λd h'=>V7 (more S h) h' p (Xw id vt fit L)/\Step S h h'):=by
 have T0:=T;obtain⟨a,m,t,c,es,T⟩:=T;have ho:=T.o;refine QU Qh 200 func168 rfl ntmps168 results168 rfl λbase w pl hb=>?_;have Qe:=Qc ho;simp only[go_sem,Qa,ho,Qe];refine Jl hb QdX (Qfr T0 id hs) λd h2 hR=>?_;obtain⟨rfl,T2,s2⟩:=hR;obtain⟨a,m,t,c,es,T⟩:=T2;have ho:=T.o;have Xf:=T.mo;have ha:=T.av.o;have Qe:=Qc ho;have Xg:=Qc Xf;have YB:KF id (KF id L)=KF id L:=by unfold KF;rw[List.filter_filter];simp
 obtain⟨c',es',e1,M'⟩:=T.mp.set .i64 c id (.agg (It.mk vt id fit id).cells);have e2:JI .i64 c es id (.agg [.raw (.int .u64 vt),.raw (.int .i64 id),.raw (.int .u64 fit),.raw (.int .i64 id)])=QM .i64 c' es':=e1;refine Qf hb ?_;simp only[go_sem,Qa,ho,Qe,Xf,Xg];apply QH hb [0,1,2,3,4,5,1006];simp only[go_sem,Qa,ho,Qe,Xf,Xg];simp only[e2];apply KL [8] hb [0,1,2,3,4,5,6,7,1008,9] [];simp only[go_sem,Qa,ho,Qe,Xf,Xg,Qi (Q3 T.pm)];refine j9 hb fU (Ph (tl:=a) (t:=t) (L:=KF id L) ((T.av.set _ (Q3 T.am) T.mt).app _) ⟨vt,id,fit,id⟩ (iN L vt id) (by have:=iP id L;omega)) λd h8 hR=>?_;obtain⟨rfl,t'',A8⟩:=hR;apply XN hb;have qC:Xw id vt fit (KF id L)=Xw id vt fit L:=by unfold Xw;rw[YB]
 have hD:=T.done (H:=h2++_) (h8:=h8) (t'':=t'') (Step.app _ h2 _) ((QC Qe).trans ho) (by simp;omega) (Bt Xg).symm T.mt T.pt (λl hl=>.inl (T.st l hl)) M' (by rw[qC];exact A8);rw[qC]at hD;have JA:=s2.len;exact⟨hD.1.mono λl hl=>hl.elim (λh3=>h3) λh3=>.inr (by omega),s2.trans hD.2⟩
end Go.Fg.X
namespace Go.Fg
open Go.RowKit (Below)
section
variable {P:Program}{L:Zm}{base nt:Nat}{s:St}{o:Oper}
def Quv{t e:TypeId}{y:Ty}{k:IntKind}(ht:P.underlying t=some (.slice e))(hy:We P e y)(hz:y.zero.length=y.size)(hs:0<y.size)(w:World)(n:Nat)
  (z8:n<=4294967296) (q8:y.bytes<=1024) :
  (Instr.makeSlice t (.int k n) (.int k n)).run P w=.ok (.slice (some ⟨w.heap.size,0,none⟩) n n) (w.alloc (.cells (flat n y.size λ_ j=>QW y.zero j).toArray e)):=by
 obtain⟨z,vU,YY⟩:=hy.zeroValue;obtain⟨i,hi,xw,Ys⟩:=hy.typeInfo w;have Jf:∀w,(typeInfo e).run P w=.ok i w:=λw=>by
  have h4:=hy.info;cases hx:P.info? e with
  | none=>rw[hx]at h4;cases h4
  | some k=>
   simp[typeInfo,hx]at hi ⊢;exact hi
 have hw:IntKind.i64.wrap (n:Int)=n:=by rw[IntKind.wrap_i64];omega
 have gW:¬ (281474976710656<(i.bytes:Int)*(n:Int)):=by
  have hmul:y.bytes*n<=1024*4294967296:=kO q8 z8;rw[<- Se,Ys];omega
 have O8:¬ ((n:Int)<0):=by omega
 have Cs:z.cells.size=y.size:=by rw[<- hz,<- vU];simp
 have ju:(flat n y.size λ_ j=>QW y.zero j).toArray=(Array.range (n*y.size)).map (z.cells[· % z.cells.size]!):=by
  apply Array.ext
  ·simp[YX]
  ·intro j h1 h2;simp only[Eg,YX]at h1;obtain⟨d1,d2,d3⟩:=div_lt h1;have Pa:y.zero=z.cells.toList:=vU.symm;have hj:j % y.size<z.cells.size:=by rw[Cs];exact d2
   simp[flat,QW,Pa,Q8,Cs,hj];rw[getElem!_pos z.cells _ hj,qZ hj];rfl
 rw[ju];by_cases hn:n=0
 ·subst hn;have af:IntKind.i64.wrap 0=0:=rfl;simp[Instr.makeSlice,run_underlying ht,hy.sizeOf,Jf,YY,asInt,asIntOf,newRow,Sem.run,af];congr 2;apply Array.ext<;>simp
 ·have EG:¬ (n*y.size=0):=Nat.mul_ne_zero hn (by omega);simp[Instr.makeSlice,run_underlying ht,hy.sizeOf,Jf,YY,asInt,asIntOf,hw,hn,O8,EG,gW,newRow,Sem.run]
def Quw(hL:ZR P L){t e:TypeId}{x0 x:Operand}{n:Nat}{a b:Nat}{zt:List Value}{y:Ty}{k:IntKind}(ho:o.op=.makeSlice t x x)(hx:Qr s.fr x=.raw (.int k n))
  (ht:ty L t=some ⟨.slice e,a,b,zt⟩) (VV:ty L e=some y) (hz:y.zero.length=y.size) (hs:0<y.size) (z8:n<=4294967296) (q8:y.bytes<=1024) :
  q7 P base nt o s (s.h++[⟨.arr,0,y.size,n,λ_=>y.zero.map JM⟩]) (.ref s.h.length 0 0 n):=by
 intro Z pl ac w r Kb;have Cr:=r.eval x;rw[hx]at Cr;have hv:=Z9 Cr;have hy:=hL _ _ VV;have Zf:pl.length=s.h.length:=r.o.len;have Q5:=Quv (k:=k) (vT (hL _ _ ht) rfl) hy hz hs w n z8 q8;have e1:∀b,b<w.heap.size->(w.alloc (.cells (flat n y.size λ_ j=>QW y.zero j).toArray e)).heap[b]? = w.heap[b]? := λb hb=>kR w _ b hb;have JH:(w.alloc (.cells (flat n y.size λ_ j=>QW y.zero j).toArray e)).heap[w.heap.size]? = some (.cells (flat n y.size λ_ j=>QW y.zero j).toArray e (0,0)):=heap_alloc_new w _;have T:Tr s.h pl w (s.h++[⟨.arr,0,y.size,n,λ_=>y.zero.map JM⟩]) (pl++[some (w.heap.size,0)]) (w.alloc (.cells (flat n y.size λ_ j=>QW y.zero j).toArray e)):=Tr.push r.o e1 _ _ (by intro b q h;simp at h;omega);refine⟨.slice (some ⟨w.heap.size,0,none⟩) n n,_,_,.inl ?_,T,Ze.push r.o e1 _ rfl (QD _) Kb JH (by simp[YX]) (λi hi=>by simp[hz]) (λi j hi hj=>⟨QW y.zero j,?_,?_⟩),.ref _ _ _ _ ⟨.arr,0,y.size,n,λ_=>y.zero.map JM⟩ (some (w.heap.size,0)) _ _ (by simp) (by rw[<- Zf];simp) rfl (QD _) (λ_=>.inr ⟨w.heap.size,0,_,_,rfl,by simp,JH,?_,QD _⟩),Co Kb _,λ_=>e1⟩
 ·simp only[execOp,ho,hv,Q5,Sem.run_bind,Result.andThen_ok,Sem.run_pure]
 ·have hg:=Et (vs:=λ_ j=>QW y.zero j) hi hj;rw[JG];simpa using hg
 ·have VD:j<y.zero.length:=by rw[hz];exact hj
  have:nth (y.zero.map JM) j=JM (QW y.zero j):=by simp[nth,QW,Q8,VD]
  show QA Z _ _ _ (nth (y.zero.map JM) j) _;rw[this];exact .cl _ _ (A7 _ _ _)
 ·simp[YX]
end
section
variable {P:Program}{L:Zm}{base nt:Nat}{w0:Start}{Q:Exit->St->Prop}
def Qux(hL:ZR P L)(hb:base<=w0.w.heap.size){k:List Item}{dst:Option Nat}{Dd:TypeId}{pos:String}{after:Array Edge}{gd:Option (Nat × Bool)}{r:List (Oper × G)}{s:St}{t e:TypeId}{x:Operand}{n:Nat}{a b:Nat}{zt:List Value}{y:Ty}{ki:IntKind}
  (hx:Qr s.fr x=.raw (.int ki n)) (ht:ty L t=some ⟨.slice e,a,b,zt⟩) (VV:ty L e=some y) (hz:y.zero.length=y.size) (hs:0<y.size) (z8:n<=4294967296) (q8:y.bytes<=1024) (hd:Zr nt dst=true)
  (h1:Qw P base nt w0 Q (.ops r::k) .normal ⟨Zj s.fr dst (.ref s.h.length 0 0 n),s.h++[⟨.arr,0,y.size,n,λ_=>y.zero.map JM⟩]⟩) :
  Qw P base nt w0 Q (.ops ((⟨dst,.makeSlice t x x,Dd,pos,after,gd⟩,none)::r)::k) .normal s:=by
 simp only[Qw]at h1 ⊢;exact TA hb (Quw (x0:=x) hL rfl hx ht VV hz hs z8 q8) hd h1
end
end Go.Fg
namespace Go.Fg.X
open Go.Proofs Go.Fg
open Go.Proofs.Tryz
@[go_sem] def Pu(a room first n:Nat):Ob:=⟨.one,0,3,1,λ_=>[.ref a 0 0 room,Qb first,Qb n]⟩
structure Quy (S:Nat->Prop) (h:List Ob) (r a room first:Nat) (row:Nat->List D) (L:List Pk):Prop where
 o:h[r]? = some (Pu a room first L.length)
 ao:h[a]? = some ⟨.arr,0,6,room,row⟩
 ra:r≠a
 fl:first<room
 len:L.length<=room
 wE:room<=64
 rows:∀i,i<L.length->row ((first+i) % room)=(L.getD i default).cells
 lens:∀i,i<room->(row i).length=6
 sr:S r
 sa:S a
def jx(S:Nat->Prop)(h:List Ob)(r room:Nat)(L:List Pk):Prop:=∃a first row,Quy S h r a room first row L
structure Hr (h:List Ob) (r a room first:Nat) (row:Nat->List D) (L:List Pk):Prop where
 o:(h.map Ob.ro)[r]? = some (Pu a room first L.length).ro
 ao:(h.map Ob.ro)[a]? = some (⟨.arr,0,6,room,row⟩:Ob).ro
 fl:first<room
 len:L.length<=room
 wE:room<=64
 rows:∀i,i<L.length->row ((first+i) % room)=(L.getD i default).cells
def Pv(h:List Ob)(r room:Nat)(L:List Pk):Prop:=∃a first row,Hr h r a room first row L
def jx.toR{S}{h}{r room}{L}:jx S h r room L->Pv h r room L:=λ⟨a,f,row,T⟩=>⟨a,f,row,ZM T.o,ZM T.ao,T.fl,T.len,T.wE,T.rows⟩
def Hr.more{h h':List Ob}{r a room first}{row}{L}(e:∀(l:Nat) (o:Ob),(h.map Ob.ro)[l]? = some o->(h'.map Ob.ro)[l]? = some o)(T:Hr h r a room first row L):Hr h' r a room first row L:=⟨e _ _ T.o,e _ _ T.ao,T.fl,T.len,T.wE,T.rows⟩
def Pv.more{h h':List Ob}{r room}{L}(e:∀(l:Nat) (o:Ob),(h.map Ob.ro)[l]? = some o->(h'.map Ob.ro)[l]? = some o):Pv h r room L->Pv h' r room L:=λ⟨a,f,row,T⟩=>⟨a,f,row,e _ _ T.o,e _ _ T.ao,T.fl,T.len,T.wE,T.rows⟩
def jx.frame{S}{h h':List Ob}{r room}{L}(e:∀l,S l->l<h.length->h'[l]? = h[l]?):jx S h r room L->jx S h' r room L:=λ⟨a,f,row,T⟩=>
 ⟨a,f,row,(e _ T.sr (Qc T.o)).trans T.o,(e _ T.sa (Qc T.ao)).trans T.ao,T.ra,T.fl,T.len,T.wE,T.rows,T.lens,T.sr,T.sa⟩
def Qfu{h:List Ob}{r a room first n:Nat}{row:Nat->List D}(ho:(h.map Ob.ro)[r]? = some (Pu a room first n).ro)(ha:(h.map Ob.ro)[a]? = some (⟨.arr,0,6,room,row⟩:Ob).ro)(ju:first<room)(YB:room<=64)(i:Nat)(hi:i<=64):
  Zg prog 184 h [.ptr r 0 0 0,Qb i] (λd=>d=Qb ((first+i) % room:Nat)):=by
 have e1:IntKind.i64.wrap ((first:Int)+i)=((first+i:Nat):Int):=by rw[wrap64 (by omega) (by omega)];omega
 refine Zt Qh 200 func184 rfl ntmps184 results184 rfl λbase w pl F hF Za hb=>?_;rw[<- hF]at ho ha;have Qe:=Qc ho;have JD:=Qc ha;simp only[go_sem,Qa,ho,Qe,ha,JD];apply QH hb [0,1,2,3,4,5,6,7,8,9,10,11,12];simp only[go_sem,Qa,ho,Qe,ha,JD,e1];refine⟨by omega,[],by simp,?_⟩;congr 2
section
variable {h:List Ob}{r a room first:Nat}{row:Nat->List D}{L:List Pk}(T:Hr h r a room first row L)
include T
theorem Qfv(i:Nat)(hi:i<=64):Zg prog 184 h [.ptr r 0 0 0,Qb i] (λd=>d=Qb ((first+i) % room:Nat)):=Qfu T.o T.ao T.fl T.wE i hi
theorem Qfw:Zg prog 212 h [.ptr r 0 0 0] (λd=>d=Qb (room - L.length:Nat)):=by
 obtain⟨ho,ha,ju,CJ,YB,Me⟩:=T;have e1:IntKind.i64.wrap ((room:Int) - L.length)=((room - L.length:Nat):Int):=by rw[wrap64 (by omega) (by omega)];omega
 refine Zt Qh 200 func212 rfl ntmps212 results212 rfl λbase w pl F hF Za hb=>?_;rw[<- hF]at ho ha;have Qe:=Qc ho;have JD:=Qc ha;simp only[go_sem,Qa,ho,Qe,ha,JD];apply QH hb [0,1,2,3,4,5,6,7,8,9,10];simp only[go_sem,Qa,ho,Qe,ha,JD,e1];exact⟨[],by simp⟩
theorem Quz:Zg prog 148 h [.ptr r 0 0 0] (λd=>d=Qb L.length):=by
 obtain⟨ho,ha,ju,CJ,YB,Me⟩:=T;refine Zt Qh 200 func148 rfl ntmps148 results148 rfl λbase w pl F hF Za hb=>?_;rw[<- hF]at ho ha;have Qe:=Qc ho;have JD:=Qc ha;simp only[go_sem,Qa,ho,Qe,ha,JD];exact⟨[],by simp⟩
theorem Qfx(i)(hi:i<L.length):Zg prog 149 h [.ptr r 0 0 0,Qb i] (λd=>d=.tup [.agg (L.getD i default).cells,Qb 0]):=by
 have T0:=T;obtain⟨ho,ha,ju,CJ,YB,Me⟩:=T;have d1:decide ((i:Int)<0)=false:=QQ (by omega);have d2:decide (L.length<=i)=false:=QQ (by omega);refine Zt Qh 200 func149 rfl ntmps149 results149 rfl λbase w pl F hF Za hb=>?_;rw[<- hF]at ho ha;have Qe:=Qc ho;have JD:=Qc ha;simp only[go_sem,Qa,ho,Qe,ha,JD,d1,d2];apply QH hb [0,1,2,3,4,5,1006,7,8,1009,10];simp only[go_sem,Qa,ho,Qe,ha,JD];refine XO hb fQ (Qfv (T0.more (Fm hF)) i (by omega)) λd hR=>?_;subst hR;refine Zb hb ?_;simp only[go_sem,Qa,ho,Qe,ha,JD];have hm:(first+i) % room<room:=XX _ (by omega);have Zx:=Me i hi;refine⟨hm,hm,?_⟩;simp only[go_sem,Qa,ho,Qe,ha,JD,Zx];exact⟨_,rfl⟩
end
def iV{f i n:Nat}(h1:f<n)(h2:i<=n):(f+i) % n=if f+i<n then f+i else f+i - n:=by
 split
 ·exact yG ‹_›
 ·rw[Nat.mod_eq_sub_mod (by omega),yG (by omega)]
def QuA{S}{h}{r room}{L}(T:jx S h r room L)(x):
  MFn prog 166 h [.ptr r 0 0 0,.agg x.cells] (λd h'=>d=Qb (if L.length=room then 5 else 0)/\jx S h' r room (if L.length=room then L else L++[x])/\Step S h h'):=by
 have T0:=T;obtain⟨a,first,row,T⟩:=T;have ho:=T.o;have ha:=T.ao;have Tr:=λg=>(show Hr (h++g) r a room first row L from ⟨ZM ((QC (Qc T.o)).trans T.o),ZM ((QC (Qc T.ao)).trans T.ao),T.fl,T.len,T.wE,T.rows⟩);by_cases hf:L.length=room
 ·have d0:(((room - L.length:Nat):Int)==0)=true:=by simp;omega
  refine QU Qh 200 func166 rfl ntmps166 results166 rfl λbase w pl hb=>?_;have Qe:=Qc ho;have JD:=Qc ha;simp only[go_sem,Qa,ho,Qe,ha,JD];refine ZT hb QdU rfl ?_ (Qfw (Tr _)) rfl λd hR=>?_
  ·simp only[go_sem,Qa,ho,Qe,ha,JD,d0]
  subst hR;refine Qf hb ?_;simp only[go_sem,Qa,ho,Qe,ha,JD,d0];rw[Qg hf,Qg hf];exact⟨rfl,T0.frame λl h1 h2=>QC h2,Step.app S h _⟩
 ·have hlen:=T.len;have d0:(((room - L.length:Nat):Int)==0)=false:=by simp;omega
  refine QU Qh 200 func166 rfl ntmps166 results166 rfl λbase w pl hb=>?_;have Qe:=Qc ho;have JD:=Qc ha;simp only[go_sem,Qa,ho,Qe,ha,JD];refine ZT hb QdU rfl ?_ (Qfw (Tr _)) rfl λd hR=>?_
  ·simp only[go_sem,Qa,ho,Qe,ha,JD,d0]
  subst hR;refine Qf hb ?_;simp only[go_sem,Qa,ho,Qe,ha,JD,d0];apply QH hb [0,1,2,3,4,5,6,7,8,10,1009,11,1012];simp only[go_sem,Qa,ho,Qe,ha,JD];refine XO hb fQ (Qfv (Tr _) L.length (by have:=T.wE;omega)) λd hR=>?_;subst hR;refine Zb hb ?_;simp only[go_sem,Qa,ho,Qe,ha,JD];have hm:(first+L.length) % room<room:=XX _ (by have:=T.fl;omega);have Jc:(row ((first+L.length) % room)).drop 6=[]:=Sg (by rw[T.lens _ hm];exact QD _);refine⟨hm,hm,?_⟩;simp only[go_sem,Qa,ho,Qe,ha,JD,Jc,Qi (Q3 T.ra)];rw[Qd hf,Qd hf];have Hs:=Qc ho;have Ht:=Qc ha;have ju:=T.fl;have YB:=T.wE;have e1:IntKind.i64.wrap ((L.length:Int)+1)=((L.length+1:Nat):Int):=by rw[wrap64 (by omega) (by omega)];omega
  refine⟨rfl,⟨a,first,λk=>bif k==(first+L.length) % room then x.cells else row k,?_,?_,T.ra,T.fl,by simp;omega,YB,?_,?_,T.sr,T.sa⟩,?_,?_⟩
  ·rw[QC (by simp;exact Hs),WE (by simp;exact Hs),e1];simp[Pu,Qb]
  ·rw[QC (by simp;exact Ht),JL T.ra,WE Ht];rfl
  ·intro i hi;simp only[ZX,zV]at hi;by_cases h1:i=L.length
   ·subst h1;simp
   ·have Jf:i<L.length:=by omega
    have QB:((first+i) % room==(first+L.length) % room)=false:=by
     rw[iV ju (by omega),iV ju (by omega)];simp only[zX];split<;>split<;>omega
    rw[QB];simp only[qB,T.rows i Jf,List.getD,Jy Jf]
  ·intro i hi;show (bif _ then _ else _:List D).length=6;by_cases h1:(i==(first+L.length) % room)=true
   ·rw[h1];rfl
   ·rw[zT.2 h1];exact T.lens i hi
  ·intro l hl hn;have n1:a≠l:=λe=>hn (e▸T.sa);have n2:r≠l:=λe=>hn (e▸T.sr);rw[QC (by simp;exact hl),JL n2,JL n1]
  ·simp
def QuB{S}{h}{r room}{x}{L}(T:jx S h r room (x::L)):
  MFn prog 226 h [.ptr r 0 0 0] (λd h'=>d=.tup [.agg x.cells,Qb 0]/\jx S h' r room L/\Step S h h'):=by
 have T0:=T;obtain⟨a,first,row,T⟩:=T;have ho:=T.o;have ha:=T.ao;have Tr:=λg=>(show Hr (h++g) r a room first row (x::L) from ⟨ZM ((QC (Qc T.o)).trans T.o),ZM ((QC (Qc T.ao)).trans T.ao),T.fl,T.len,T.wE,T.rows⟩);have YB:=T.wE;have ju:=T.fl;have CJ:=T.len;simp only[Vu]at CJ;refine QU Qh 200 func226 rfl ntmps226 results226 rfl λbase w pl hb=>?_;have Qe:=Qc ho;have JD:=Qc ha;simp only[go_sem,Qa,ho,Qe,ha,JD];refine ZT hb QdK rfl ?_ (Qfx (Tr _) 0 (by simp)) rfl λd hR=>?_
 ·simp only[go_sem,Qa,Qa,ho,Qe,ha,JD]
 subst hR;refine Qf hb ?_;simp only[go_sem,Qa,Qa,ho,Qe,ha,JD];apply QH hb [0,1,2,3,4,5,6,7,8,9,1010];simp only[go_sem,Qa,ho,Qe,ha,JD];refine⟨ju,ju,?_⟩;have Hs:=Qc ho;have Ht:=Qc ha;have Jc:(row first).drop 6=[]:=Sg (by rw[T.lens _ ju];exact QD _);have xn:∀A B,((h.set a A).set r B)[r]? = some B:=λA B=>WE (by simp;exact Hs);have e2:IntKind.i64.wrap (((L.length+1:Nat):Int) - 1)=(L.length:Int):=by rw[wrap64 (by omega) (by omega)];omega
 have Dq:=λA g=>(show ((h.set a A++g).map Ob.ro)[r]? = some (Pu a room first (L.length+1)).ro from ZM ((QC (by simp;exact Hs)).trans ((JL (Q3 T.ra)).trans ho)));have haN:=λKx g=>(show ((h.set a ⟨.arr,0,6,room,Kx⟩++g).map Ob.ro)[a]? = some (⟨.arr,0,6,room,Kx⟩:Ob).ro from ZM ((QC (by simp;exact Ht)).trans (WE Ht)));refine ZT hb fQ rfl ?_ (Qfu (Dq _ _) (haN _ _) ju YB 1 (by omega)) rfl λd hR=>?_
 ·simp only[go_sem,Qa,Qa,ho,Qe,ha,JD,Qi (Q3 T.ra),Jc,xn,e2]
 subst hR;refine Qf hb ?_;simp only[go_sem,Qa,Qa,ho,Qe,ha,JD,Qi (Q3 T.ra),Jc,xn,e2];refine⟨⟨a,(first+1) % room,λk=>bif k==first then (default:Pk).cells else row k,?_,?_,T.ra,XX _ (by omega),by omega,YB,?_,?_,T.sr,T.sa⟩,?_,?_⟩
 ·rw[QC (by simp;exact Hs),WE (by simp;exact Hs)];rfl
 ·rw[QC (by simp;exact Ht),JL T.ra,WE Ht];rfl
 ·intro i hi;have e3:((first+1) % room+i) % room=(first+(i+1)) % room:=by rw[Nat.mod_add_mod];congr 1;omega
  have h1:i+1<room:=by omega
  have QB:((first+(i+1)) % room==first)=false:=by
   rw[iV ju (by omega)];simp only[zX];split<;>omega
  rw[e3];simp only[QB,qB,T.rows (i+1) (by simp;omega)];simp
 ·intro i hi;show (bif _ then _ else _:List D).length=6;by_cases h1:(i==first)=true
  ·rw[h1];rfl
  ·rw[zT.2 h1];exact T.lens i hi
 ·intro l hl hn;have n1:a≠l:=λe=>hn (e▸T.sa);have n2:r≠l:=λe=>hn (e▸T.sr);rw[QC (by simp;exact hl),JL n2,JL n1]
 ·simp
def QuD(h:List Ob)(n:Nat)(h1:1<=n)(h2:n<=64):MFn prog 165 h [Qb n] (λd h'=>d=.tup [.ptr (h.length+1) 0 0 0,Qb 0]/\jx (λl=>h.length<=l) h' (h.length+1) n []/\∃g,h'=h++g/\g.length=2):=by
 have d1:decide ((n:Int)<1)=false:=QQ (by omega);have d2:decide ((64:Int)<n)=false:=QQ (by omega);refine QU Qh 200 func165 rfl ntmps165 results165 rfl λbase w pl hb=>?_;simp only[go_sem,Qa,d1,d2];refine Qux Aj hb rfl rfl rfl rfl (by decide) (by omega) (by decide) rfl ?_;apply ZC hb;simp only[ZX,zV,Wb,XW,YT];refine⟨trivial,⟨h.length,0,λ_=>(default:Pk).cells,KX rfl,Ko rfl,by omega,by omega,by simp,h2,by simp,λ_ _=>rfl,by show h.length<=_;omega,QD _⟩,_,rfl,rfl⟩
@[go_sem] def num(n:Nat):D:=.agg [u64 (n / 18446744073709551616),u64 (n % 18446744073709551616)]
def QuE(a b ah al bh bl)(ha:a=ah*4294967296+al)(hb:b=bh*4294967296+bl)(h1:ah<4294967296)(h2:al<4294967296)(h3:bh<4294967296)(h4:bl<4294967296):
  ∃P Q R S:Nat,P=ah*bh/\Q=ah*bl/\R=al*bh/\S=al*bl/\a*b=P*18446744073709551616+(Q+R)*4294967296+S/\P<=18446744065119617025/\Q<=18446744065119617025/\R<=18446744065119617025/\S<=18446744065119617025:=by
 refine⟨_,_,_,_,rfl,rfl,rfl,rfl,?_,?_,?_,?_,?_⟩
 ·subst ha hb;have e:(ah*4294967296+al)*(bh*4294967296+bl)=ah*bh*(4294967296*4294967296)+(ah*bl+al*bh)*4294967296+al*bl:=by
   simp only[Vl,Nat.mul_add,IA,Nat.mul_left_comm,NL];omega
  rw[e]
 all_goals (refine Kz (kO (Nat.le_sub_one_of_lt ‹_›) (Nat.le_sub_one_of_lt ‹_›)) (by decide))
def AA(a b)(ha:a<18446744073709551616)(hb:b<18446744073709551616):Zh prog 221 [u64 a,u64 b] (Qo (num (a*b))):=by
 refine Zy 0 Qh 200 func221 rfl ntmps221 results221 rfl λbase w hb=>?_;simp only[go_sem,-Nat.reducePow];have e32:(2:Nat) ^ min 32 64=4294967296:=rfl;have i32:(2:Int) ^ min 32 64=((4294967296:Nat):Int):=rfl;obtain⟨P,Q,R,S,hP,hQ,hR,hS,Vb,bP,bQ,bR,bS⟩:=QuE a b (a / 4294967296) (a % 4294967296) (b / 4294967296) (b % 4294967296) (by omega) (by omega) (by omega) (by omega) (by omega) (by omega);have s32:∀x:Nat,((x:Int)).fdiv ((4294967296:Nat):Int)=((x / 4294967296:Nat):Int):=λx=>by have:=Hg x 32;rwa [show (2:Int) ^ 32=((4294967296:Nat):Int) from rfl,show (2:Nat) ^ 32=4294967296 from rfl]at this
 simp (disch:=omega) only [s32,Qts,i32,OZ,Hf,<- hP,<- hQ,<- hR,<- hS,Vb];have k2:∀X:Nat,X*4294967296 % 18446744073709551616=X % 4294967296*4294967296:=λX=>by omega
 rw[k2,Qtt _ _ (by omega) (by omega)];have e1:((P % 18446744073709551616+((Q % 18446744073709551616+S % 18446744073709551616 / 4294967296) % 18446744073709551616) / 4294967296) % 18446744073709551616+((R % 18446744073709551616+((Q % 18446744073709551616+S % 18446744073709551616 / 4294967296) % 18446744073709551616) % 4294967296) % 18446744073709551616) / 4294967296) % 18446744073709551616=(P*18446744073709551616+(Q+R)*4294967296+S) / 18446744073709551616:=by omega
 have e2:((R % 18446744073709551616+((Q % 18446744073709551616+S % 18446744073709551616 / 4294967296) % 18446744073709551616) % 4294967296) % 18446744073709551616) % 4294967296*4294967296+S % 18446744073709551616 % 4294967296=(P*18446744073709551616+(Q+R)*4294967296+S) % 18446744073709551616:=by omega
 rw[e1,e2]
def iW(a b)(ha:a<2 ^ 128)(hb:b<2 ^ 128):Zh prog 241 [num a,num b] (Qo (Qb (if a<b then -1 else if a=b then 0 else 1))):=by
 refine Zy 0 Qh 200 func241 rfl ntmps241 results241 rfl λbase w hb=>?_;simp only[go_sem,-Nat.reducePow];refine vg (λh1=>?_) (λh1=>?_)
 ·simp only[go_sem,-Nat.reducePow,h1];have:=YV h1;rw[Qg (by omega)]
 simp only[go_sem,-Nat.reducePow,h1];have ZY:=A4 h1;refine vg (λh2=>?_) (λh2=>?_)
 ·have X0:a / 18446744073709551616=b / 18446744073709551616:=by have:=eq_of_beq h2;omega
  simp only[go_sem,-Nat.reducePow,h2];refine vg (λh3=>?_) (λh3=>?_)
  ·have:=YV h3;simp only[go_sem,-Nat.reducePow,h3];rw[Qg (by omega)]
  ·have gB:=A4 h3;simp only[go_sem,-Nat.reducePow,h3];refine vg (λh4=>?_) (λh4=>?_)
   ·simp only[go_sem,-Nat.reducePow,h4];simp only[ZJ,zY]at h4;rw[Qd (by omega),Qg (by omega)]
   ·simp only[go_sem,-Nat.reducePow,h4];simp only[F9,zX]at h4;rw[Qd (by omega),Qd (by omega)]
 ·have X0:=ne_of_beq_false h2;simp only[go_sem,-Nat.reducePow,h2,Ga];rw[Qd (by omega),Qd (by omega)]
def QuG(a b c u:Nat)(ha:a<18446744073709551616)(hb:b<18446744073709551616)(hc:c<2)(hl:u=(a+18446744073709551616 - b+18446744073709551616 - c) % 18446744073709551616):
  (bits BinOp.or IntKind.u64 (bits BinOp.and IntKind.u64 (bits BinOp.xor IntKind.u64 (if IntKind.u64.signed=true then -1 else IntKind.u64.max) (a:Int)) (b:Int)) (bits BinOp.and IntKind.u64 (bits BinOp.xor IntKind.u64 (if IntKind.u64.signed=true then -1 else IntKind.u64.max) (bits BinOp.xor IntKind.u64 (a:Int) (b:Int))) (u:Int))).fdiv (2 ^ min 63 64)=((if a<b+c then 1 else 0:Nat):Int):=by
 have em:(if IntKind.u64.signed=true then -1 else IntKind.u64.max)=((18446744073709551615:Nat):Int):=by decide
 have hx:a ^^^ b<2 ^ 64:=NM (by omega) (by omega);have VK:18446744073709551615 ^^^ a<2 ^ 64:=NM (by omega) (by omega);have Wr:18446744073709551615 ^^^ (a ^^^ b)<2 ^ 64:=NM (by omega) (by omega);have Hu:(18446744073709551615 ^^^ a) &&& b<2 ^ 64:=Sv _ (by omega);have hx4:(18446744073709551615 ^^^ (a ^^^ b)) &&& u<2 ^ 64:=Sv _ (by omega);rw[em,u64_xor_nat a b ha hb,u64_xor_nat _ a (by decide) ha,u64_xor_nat _ _ (by decide) (by omega),u64_and_nat _ b (by omega) hb,u64_and_nat _ u (by omega) (by omega),u64_or_nat _ _ (by omega) (by omega),Hg];rw[show (2:Nat) ^ min 63 64=9223372036854775808 from rfl,gM _ _ (by omega) (by omega),UW _ _ (by omega) (by omega),UW _ _ (by omega) (by omega),gN _ _ (by omega) (by omega),gN _ _ (by omega) (by omega),gN _ _ (by omega) (by omega)];rw[Qtu a b c _ _ _ u _ ha hb hc hl rfl rfl rfl rfl]
def Qfy(a b)(c)(ha:a<18446744073709551616)(hb:b<18446744073709551616)(hc:c<2):Zh prog 285 [u64 a,u64 b,u64 c] (Qo (.tup [u64 ((a+18446744073709551616 - b+18446744073709551616 - c) % 18446744073709551616),u64 (if a<b+c then 1 else 0)])):=by
 refine Zy 0 Qh 200 func285 rfl ntmps285 results285 rfl λbase w hb=>?_;simp only[go_sem,-Nat.reducePow];have h2:IntKind.u64.wrap (IntKind.u64.wrap ((a:Int) - (b:Int)) - (c:Int))=(((a+18446744073709551616 - b+18446744073709551616 - c) % 18446744073709551616:Nat):Int):=by
  rw[gL a b (by omega),gL _ c (by omega)];omega
 rw[h2,QuG a b c _ ha ‹_› hc rfl]
def QuI(a b)(ha:a<2 ^ 128)(hb:b<2 ^ 128):Zh prog 274 [num a,num b] (Qo (.tup [num ((a+2 ^ 128 - b) % 2 ^ 128),QY (decide (a<b))])):=by
 refine Zy 0 Qh 200 func274 rfl ntmps274 results274 rfl λbase w hb=>?_;simp only[go_sem,-Nat.reducePow];refine ZA hb Qea rfl ?_ (Qfy (a % 18446744073709551616) (b % 18446744073709551616) 0 (by omega) (by omega) (by omega)) (Qo.flat rfl) rfl λd h hR=>?_
 ·simp only[go_sem,-Nat.reducePow]
 obtain⟨rfl,rfl⟩:=hR;refine Qf hb ?_;simp only[go_sem,-Nat.reducePow];refine ZA hb Qea rfl ?_ (Qfy (a / 18446744073709551616) (b / 18446744073709551616) (if a % 18446744073709551616<b % 18446744073709551616+0 then 1 else 0) (by omega) (by omega) (by split<;>omega)) (Qo.flat rfl) rfl λd h hR=>?_
 ·simp only[go_sem,-Nat.reducePow]
 obtain⟨rfl,rfl⟩:=hR;refine Qf hb ?_;simp only[go_sem,-Nat.reducePow];have e1:∀x:Nat,(((if x=1 then (1:Nat) else 0:Nat):Int) != 0)=decide (x=1):=λx=>by by_cases h:x=1<;>simp[h]
 have e2:(((if a / 18446744073709551616<b / 18446744073709551616+if a % 18446744073709551616<b % 18446744073709551616 then 1 else 0 then 1 else 0:Nat):Int) != 0)=decide (a<b):=by
  by_cases h1:a % 18446744073709551616<b % 18446744073709551616
  ·rw[Qg h1];by_cases h2:a / 18446744073709551616<b / 18446744073709551616+1
   ·rw[Qg h2];simp;omega
   ·rw[Qd h2];simp;omega
  ·rw[Qd h1];by_cases h2:a / 18446744073709551616<b / 18446744073709551616+0
   ·rw[Qg h2];simp;omega
   ·rw[Qd h2];simp;omega
 have e3:(a / 18446744073709551616+18446744073709551616 - b / 18446744073709551616+18446744073709551616 - if a % 18446744073709551616<b % 18446744073709551616 then 1 else 0) % 18446744073709551616=(a+2 ^ 128 - b) % 2 ^ 128 / 18446744073709551616:=by
  split<;>omega
 have e4:(a % 18446744073709551616+18446744073709551616 - b % 18446744073709551616+18446744073709551616 - 0) % 18446744073709551616=(a+2 ^ 128 - b) % 2 ^ 128 % 18446744073709551616:=by omega
 try rw[Ej]at e4
 try rw[Ej]at e4
 rw[e2,e3,e4]
def QuJ(a b c u:Nat)(ha:a<18446744073709551616)(hb:b<18446744073709551616)(hc:c<2)(hl:u=(a+b+c) % 18446744073709551616):
  (bits BinOp.or IntKind.u64 (bits BinOp.and IntKind.u64 (a:Int) (b:Int)) (bits BinOp.andNot IntKind.u64 (bits BinOp.or IntKind.u64 (a:Int) (b:Int)) (u:Int))).fdiv (2 ^ min 63 64)=((if 18446744073709551616<=a+b+c then 1 else 0:Nat):Int):=by
 have hx:a ||| b<2 ^ 64:=Nat.or_lt_two_pow (by omega) (by omega);have Hu:a &&& b<2 ^ 64:=Sv _ (by omega);have hx4:(a ||| b) &&& (18446744073709551615 - u)<2 ^ 64:=Sv _ (by omega);rw[u64_and_nat a b ha hb,u64_or_nat a b ha hb,u64_andNot_nat _ u (by omega) (by omega),u64_or_nat _ _ (by omega) (by omega),Hg];rw[show (2:Nat) ^ min 63 64=9223372036854775808 from rfl,gM _ _ (by omega) (by omega),UW _ _ (by omega) (by omega),UW _ _ (by omega) (by omega),gM _ _ (by omega) (by omega)];rw[show (18446744073709551615 - u) / 9223372036854775808=1 - u / 9223372036854775808 by omega];rw[Qtv a b c _ _ _ u _ ha hb hc hl rfl rfl rfl rfl]
def Qfz(a b)(c)(ha:a<18446744073709551616)(hb:b<18446744073709551616)(hc:c<2):Zh prog 268 [u64 a,u64 b,u64 c] (Qo (.tup [u64 ((a+b+c) % 18446744073709551616),u64 (if 18446744073709551616<=a+b+c then 1 else 0)])):=by
 refine Zy 0 Qh 200 func268 rfl ntmps268 results268 rfl λbase w hb=>?_;simp only[go_sem,-Nat.reducePow];have h2:IntKind.u64.wrap (IntKind.u64.wrap ((a:Int)+(b:Int))+(c:Int))=(((a+b+c) % 18446744073709551616:Nat):Int):=by
  rw[Hf,Hf];omega
 rw[h2,QuJ a b c _ ha ‹_› hc rfl]
def Pw(a b)(ha:a<2 ^ 128)(hb:b<2 ^ 128):Zh prog 255 [num a,num b] (Qo (.tup [num ((a+b) % 2 ^ 128),QY (decide (2 ^ 128<=a+b))])):=by
 refine Zy 0 Qh 200 func255 rfl ntmps255 results255 rfl λbase w hb=>?_;simp only[go_sem,-Nat.reducePow];refine ZA hb Qd7 rfl ?_ (Qfz (a % 18446744073709551616) (b % 18446744073709551616) 0 (by omega) (by omega) (by omega)) (Qo.flat rfl) rfl λd h hR=>?_
 ·simp only[go_sem,-Nat.reducePow]
 obtain⟨rfl,rfl⟩:=hR;refine Qf hb ?_;simp only[go_sem,-Nat.reducePow];refine ZA hb Qd7 rfl ?_ (Qfz (a / 18446744073709551616) (b / 18446744073709551616) (if 18446744073709551616<=a % 18446744073709551616+b % 18446744073709551616+0 then 1 else 0) (by omega) (by omega) (by split<;>omega)) (Qo.flat rfl) rfl λd h hR=>?_
 ·simp only[go_sem,-Nat.reducePow]
 obtain⟨rfl,rfl⟩:=hR;refine Qf hb ?_;simp only[go_sem,-Nat.reducePow];have e2:(((if 18446744073709551616<=a / 18446744073709551616+b / 18446744073709551616+(if 18446744073709551616<=a % 18446744073709551616+b % 18446744073709551616 then 1 else 0) then 1 else 0:Nat):Int) != 0)=decide (2 ^ 128<=a+b):=by
  by_cases h1:18446744073709551616<=a % 18446744073709551616+b % 18446744073709551616
  ·rw[Qg h1];by_cases h2:18446744073709551616<=a / 18446744073709551616+b / 18446744073709551616+1
   ·rw[Qg h2];simp;omega
   ·rw[Qd h2];simp;omega
  ·rw[Qd h1];by_cases h2:18446744073709551616<=a / 18446744073709551616+b / 18446744073709551616+0
   ·rw[Qg h2];simp;omega
   ·rw[Qd h2];simp;omega
 have e3:(a / 18446744073709551616+b / 18446744073709551616+if 18446744073709551616<=a % 18446744073709551616+b % 18446744073709551616 then 1 else 0) % 18446744073709551616=(a+b) % 2 ^ 128 / 18446744073709551616:=by
  split<;>omega
 have e4:(a % 18446744073709551616+b % 18446744073709551616) % 18446744073709551616=(a+b) % 2 ^ 128 % 18446744073709551616:=by omega
 try rw[Ej]at e4
 try rw[Ej]at e4
 rw[e2,e3,e4]
def QfA(a)(ha:a<18446744073709551616):Zh prog 247 [u64 a] (Qo (num a)):=by
 refine Zy 0 Qh 200 func247 rfl ntmps247 results247 rfl λbase w hb=>?_;simp only[go_sem,-Nat.reducePow];have e1:a / 18446744073709551616=0:=by omega
 have e2:a % 18446744073709551616=a:=by omega
 rw[e1,e2];rfl
def iX(x y:Nat)(hx:x<9223372036854775808)(hy:y<2):bits .or .u64 ((x*2:Nat):Int) (y:Int)=((x*2+y:Nat):Int):=by
 rw[u64_or_nat _ _ (by omega) (by omega),nat_join 1 _ _ (by omega) (by omega)]
def iY(x:Nat):(x:Int).fdiv (2 ^ min 63 64)=((x / 9223372036854775808:Nat):Int):=by
 have:=Hg x 63;rwa [show (2:Int) ^ 63=2 ^ min 63 64 from rfl,show (2:Nat) ^ 63=9223372036854775808 from rfl]at this
def iZ(x:Nat):IntKind.u64.wrap ((x:Int)*2 ^ min 1 64)=((x % 9223372036854775808*2:Nat):Int):=by
 rw[show (2:Int) ^ min 1 64=((2:Nat):Int) from rfl,OZ];omega
def ld(r A:Nat)(hA:A<2 ^ 128):bits .or .u64 (IntKind.u64.wrap ((r:Int)*2 ^ min 1 64)) ((A / 18446744073709551616 / 9223372036854775808:Nat):Int)=(((2*r+A / 2 ^ 127) % 18446744073709551616:Nat):Int):=by
 rw[iZ,iX _ _ (by omega) (by omega)];congr 1;omega
def Mf(A)(hA:A<2 ^ 128):bits .or .u64 (IntKind.u64.wrap (((A / 18446744073709551616:Nat):Int)*2 ^ min 1 64)) ((A % 18446744073709551616 / 9223372036854775808:Nat):Int)=(((A*2 % 2 ^ 128) / 18446744073709551616:Nat):Int):=by
 rw[iZ,iX _ _ (by omega) (by omega)];congr 1;omega
def lg(A):IntKind.u64.wrap (((A % 18446744073709551616:Nat):Int)*2 ^ min 1 64)=(((A*2 % 2 ^ 128) % 18446744073709551616:Nat):Int):=by
 rw[iZ];congr 1;omega
def ag(x):bits .or .u64 (((x*2 % 2 ^ 128) % 18446744073709551616:Nat):Int) 1=((((x*2+1) % 2 ^ 128) % 18446744073709551616:Nat):Int):=by
 have:=iX ((x*2 % 2 ^ 128) % 18446744073709551616 / 2) 1 (by omega) (by omega);rw[show (x*2 % 2 ^ 128) % 18446744073709551616 / 2*2=(x*2 % 2 ^ 128) % 18446744073709551616 by omega]at this;rw[show ((1:Nat):Int)=1 from rfl]at this;rw[this];congr 1;omega
def lh{n:Nat}(h:n≠0):((n:Int) != 0)=true:=by simp[h]
def ai{n:Nat}(h:n=0):((n:Int) != 0)=false:=by simp[h]
def QuK(a k)(hk:k<128):a / 2 ^ (128 - (k+1))=2*(a / 2 ^ (128 - k))+(a*2 ^ k % 2 ^ 128) / 2 ^ 127:=by
 obtain⟨m,hm⟩:∃m,m=127 - k:=⟨_,rfl⟩;have e1:128 - (k+1)=m:=by omega
 have e2:128 - k=m+1:=by omega
 have e3:(2:Nat) ^ 128=2 ^ (m+1)*2 ^ k:=by rw[<- Nat.pow_add];congr 1;omega
 have e4:(2:Nat) ^ 127=2 ^ m*2 ^ k:=by rw[<- Nat.pow_add];congr 1;omega
 rw[e1,e2,e3,e4,Nat.mul_mod_mul_right,Nat.mul_div_mul_right _ _ (SA k),Nat.pow_succ];have hM:=SA m;generalize 2 ^ m=M at *;have h1:=Sw a (M*2);have h2:a=M*(2*(a / (M*2)))+a % (M*2):=by rw[<- NL];omega
 conv=>lhs;rw[h2]
 rw[Nat.mul_add_div hM]
def QuL(a k):a*2 ^ k % 2 ^ 128*2 % 2 ^ 128=a*2 ^ (k+1) % 2 ^ 128:=by
 have:a*2 ^ (k+1)=a*2 ^ k*2:=by rw[Nat.pow_succ,NL]
 rw[this];omega
def QuM(t b β)(hb:0<b)(hβ:β<2):
  (b<=2*(t % b)+β->(2*t+β) / b=2*(t / b)+1/\(2*t+β) % b=2*(t % b)+β - b)/\(2*(t % b)+β<b->(2*t+β) / b=2*(t / b)/\(2*t+β) % b=2*(t % b)+β):=by
 have h1:=Sw t b;have h2:=XX t hb;constructor
 ·intro h;refine(Sy hb).2 ⟨?_,by omega⟩;rw[Nat.mul_add,Nat.mul_left_comm];omega
 ·intro h;refine(Sy hb).2 ⟨?_,by omega⟩;rw[Nat.mul_left_comm];omega
def dA(a k:Nat):Nat:=a*2 ^ k % 2 ^ 128
def dT(a k:Nat):Nat:=a / 2 ^ (128 - k)
def QfB(a k)(h:a<2 ^ 128):dT a k<2 ^ 128:=NK (Sx _ _) h
def Fx(a k):dA a k<2 ^ 128:=XX _ (by decide)
def QfC(a b)(ha:a<2 ^ 128)(hb:b<18446744073709551616):Zh prog 286 [num a,u64 b] (Qo (.tup [num (if b=0 then 0 else a / b),u64 (if b=0 then 0 else a % b),Qb (if b=0 then 1 else 0)])):=by
 refine Zy 0 Qh 200 func286 rfl ntmps286 results286 rfl λbase w hb=>?_;simp only[go_sem,-Nat.reducePow];by_cases Zo:b=0
 ·subst Zo;simp only[go_sem,-Nat.reducePow,K6];try rfl
 have hbz:=bnz Zo;simp only[go_sem,-Nat.reducePow,hbz];have i1:dA a 0=a:=by show a*2 ^ 0 % 2 ^ 128=a;rw[Nat.pow_zero,Nat.mul_one];exact yG ha
 have i2:dT a 0=0:=Nat.div_eq_of_lt ha;refine tI (G:=Nat) [1,2,4,7] (λk=>True) (λk γ=>[(8,u64 (dT a k % b)),(13,Qb k)]) (λk γ=>[⟨.one,0,2,1,λ_=>[u64 (dA a k / 18446744073709551616),u64 (dA a k % 18446744073709551616)]⟩,⟨.one,0,2,1,λ_=>[u64 0,u64 0]⟩,⟨.one,0,2,1,λ_=>[u64 (dT a k / b / 18446744073709551616),u64 (dT a k / b % 18446744073709551616)]⟩]) (128) (0) rfl (QI.to 3 (by (simp only[go_sem,-Nat.reducePow,i1,i2,Nat.zero_div,Nat.zero_mod])<;>simp)) trivial ?_;intro k γ hk _;replace hk:k<=128:=hk;refine Qf hb ?_;simp only[go_sem,-Nat.reducePow];have Zq:=Vp (show k<4611686018427387904 by omega);first|refine Ad hk (λQs=>?_) (λQs=>?_)|refine Ae hk (λQs=>?_) (λQs=>?_)
 ·replace Qs:k<128:=Qs;have Qc:decide ((k:Int)<128)=true:=by simp;omega
  have J3:0<b:=by omega
  have t1:dT a (k+1)=2*dT a k+dA a k / 2 ^ 127:=QuK a k Qs;have t2:dA a k*2 % 2 ^ 128=dA a (k+1):=QuL a k;have t3:=QuM (dT a k) b (dA a k / 2 ^ 127) J3 (by have:=Fx a k;omega);have t4:=XX (dT a k) J3;have t5:=Fx a k;have t6:=QfB a (k+1) ha;rw[<- t1]at t3;have t7:dT a (k+1) / b<2 ^ 128:=NK (Sx _ _) t6;have t8:dT a k / b<2 ^ 128:=NK (Sx _ _) (QfB a k ha);by_cases wg:b<=2*(dT a k % b)+dA a k / 2 ^ 127
  ·obtain⟨q1,q2⟩:=t3.1 wg;have e1:IntKind.u64.wrap ((((2*(dT a k % b)+dA a k / 2 ^ 127) % 18446744073709551616:Nat):Int) - (b:Int))=((dT a (k+1) % b:Nat):Int):=by
    rw[gL _ b (by omega),q2];congr 1;omega
   have e2:dT a k / b*2 % 2 ^ 128=dT a k / b*2:=by omega
   have e3:((dT a k / b*2+1) % 2 ^ 128)=dT a (k+1) / b:=by omega
   have e4:dT a k / b*2 % 2 ^ 128 / 18446744073709551616=dT a (k+1) / b / 18446744073709551616:=by omega
   by_cases ho:dT a k % b / 9223372036854775808=0
   ·have lj:decide (b<=(2*(dT a k % b)+dA a k / 2 ^ 127) % 18446744073709551616)=true:=by simp;omega
    have Px:((((dT a k % b / 9223372036854775808:Nat)):Int) != 0)=false:=ai ho;simp only[go_sem,-Nat.reducePow,Qc,ld _ _ (Fx a k),Mf _ (Fx a k),Mf _ t8,lg,iY,Px,lj,e1,t2,ag,e3,e4];repeat (refine And.intro (by first|assumption|omega) ?_)
    refine⟨_,QI.to 3 (by (simp only[go_sem,-Nat.reducePow,Zq,e1,t2,ag,e3,e4])<;>simp),EW.mk (γ) (trivial)⟩
   ·have Px:((((dT a k % b / 9223372036854775808:Nat)):Int) != 0)=true:=lh ho;simp only[go_sem,-Nat.reducePow,Qc,ld _ _ (Fx a k),Mf _ (Fx a k),Mf _ t8,lg,iY,Px,e1,t2,ag,e3,e4];repeat (refine And.intro (by first|assumption|omega) ?_)
    refine⟨_,QI.to 3 (by (simp only[go_sem,-Nat.reducePow,Zq,e1,t2,ag,e3,e4])<;>simp),EW.mk (γ) (trivial)⟩
  ·obtain⟨q1,q2⟩:=t3.2 (by omega);have e1:(2*(dT a k % b)+dA a k / 2 ^ 127) % 18446744073709551616=dT a (k+1) % b:=by omega
   have e3:dT a k / b*2 % 2 ^ 128=dT a (k+1) / b:=by omega
   have ho:dT a k % b / 9223372036854775808=0:=by omega
   have lj:decide (b<=dT a (k+1) % b)=false:=by simp;omega
   have Px:=ai ho;simp only[go_sem,-Nat.reducePow,Qc,ld _ _ (Fx a k),Mf _ (Fx a k),Mf _ t8,lg,iY,Px,e1,lj,t2,e3];repeat (refine And.intro (by first|assumption|omega) ?_)
   refine⟨_,QI.to 3 (by (simp only[go_sem,-Nat.reducePow,Zq,e1,t2,e3])<;>simp),EW.mk (γ) (trivial)⟩
 ·have Qc:decide ((k:Int)<128)=false:=by rw[Qs];rfl
  have e1:dT a k=a:=by rw[Qs];show a / 2 ^ 0=a;rw[Nat.pow_zero,Nat.div_one]
  simp only[go_sem,-Nat.reducePow,Qc,e1];refine Qf hb ?_;simp only[go_sem,-Nat.reducePow];rw[Qd Zo,Qd Zo,Qd Zo]
def d0(n:Nat):Nat:=n % 4294967296
def d1(n:Nat):Nat:=n / 4294967296 % 4294967296
def d2(n:Nat):Nat:=n / 18446744073709551616 % 4294967296
def d3(n:Nat):Nat:=n / 79228162514264337593543950336 % 4294967296
@[go_sem] def dg(n:Nat):D:=.agg [u64 (d0 n),u64 (d1 n),u64 (d2 n),u64 (d3 n)]
theorem aj:((1:Nat):Int)=1:=rfl
end Go.Fg.X
namespace Go.Fg.X
open Go.Proofs Go.Fg
end Go.Fg.X
namespace Go.Fg.X
open Go.Proofs Go.Fg
end Go.Fg.X
namespace Go.Fg.X
open Go.Proofs Go.Fg
end Go.Fg.X
namespace Go.Fg.X
open Go.Proofs Go.Fg
open Go.Proofs.Tryz
def cdiv(n d:Nat):Nat:=(n+d - 1) / d
def QuO(n d)(hd:0<d):cdiv n d=if n % d=0 then n / d else n / d+1:=by
 unfold cdiv;have h1:=Sw n d;have h2:=XX n hd;split
 ·rename_i h;have:(n+d - 1) / d=n / d/\(n+d - 1) % d=d - 1:=(Sy hd).2 ⟨by omega,by omega⟩;exact this.1
 ·have:(n+d - 1) / d=n / d+1/\(n+d - 1) % d=n % d - 1:=(Sy hd).2 ⟨by rw[Nat.mul_add];omega,by omega⟩;exact this.1
@[go_sem] def QEk(v e:Int):D:=.agg [.raw (.int .u64 v),.raw (.int .i64 e)]
def QuP(n d)(hn:n<2 ^ 128)(hd:0<d)(h:¬ n % d=0):n / d+1<2 ^ 128:=by
 have h2:2<=d:=by
  rcases A3 d 2 with h3|h3
  ·have:d=1:=by omega
   subst this;omega
  ·exact h3
 have:=Nat.div_le_div_left (c:=2) (b:=d) (a:=n) h2 (by decide);omega
theorem QfD:((65536:Nat):Int)=65536:=rfl
def Py(n:Nat):Nat:=if n<18446744073709551616 then n else 0
def Mg(n:Nat):Int:=if n<18446744073709551616 then 0 else 20
def QfE(n)(hn:n<2 ^ 128):Zh prog 287 [num n] (Qo (.tup [u64 (Py n),Qb (Mg n)])):=by
 refine Zy 0 Qh 200 func287 rfl ntmps287 results287 rfl λbase w hb=>?_;simp only[go_sem,-Nat.reducePow];by_cases h:n<18446744073709551616
 ·have e1:((((n / 18446744073709551616:Nat)):Int) != 0)=false:=ai (by omega);have e2:Py n=n:=Qg h;have e3:Mg n=0:=Qg h;simp only[go_sem,-Nat.reducePow,e1,e2,e3];rw[yG h]
 ·have e1:((((n / 18446744073709551616:Nat)):Int) != 0)=true:=lh (by omega);have e2:Py n=0:=Qd h;have e3:Mg n=20:=Qd h;simp only[go_sem,-Nat.reducePow,e1,e2,e3]
def QuQ(n d)(hn:n<2 ^ 128)(hd:d<18446744073709551616)(Fu:0<d):Zh prog 275 [num n,u64 d] (Qo (.tup [u64 (Py (cdiv n d)),Qb (Mg (cdiv n d))])):=by
 have hc:=QuO n d Fu;have hdz:d≠0:=by omega
 have hle:=Sx n d;refine Zy 0 Qh 200 func275 rfl ntmps275 results275 rfl λbase w hb=>?_;simp only[go_sem,-Nat.reducePow];refine ZA hb Qeb rfl ?_ (QfC n d hn hd) (Qo.flat rfl) rfl λd h hR=>?_
 ·simp only[go_sem,-Nat.reducePow,hdz,kQ]
 obtain⟨rfl,rfl⟩:=hR;refine Qf hb ?_;simp only[go_sem,-Nat.reducePow,hdz,kQ];by_cases h:n % d=0
 ·rw[Qg h]at hc;have e1:=ai h;simp only[go_sem,-Nat.reducePow,e1];refine ZA hb Qec rfl ?_ (QfE (n / d) (by omega)) (Qo.flat rfl) rfl λd h hR=>?_
  ·simp only[go_sem,-Nat.reducePow,hc]
  obtain⟨rfl,rfl⟩:=hR;refine Qf hb ?_;simp only[go_sem,-Nat.reducePow,hc]
 ·rw[Qd h]at hc;have xp:=QuP n d hn Fu h;have e1:=lh h;simp only[go_sem,-Nat.reducePow,e1];apply QH hb [0,1001,1002,3,4,5,1006];simp only[go_sem,-Nat.reducePow];refine KB hb Qd2 rfl ?_ (QfA 1 (by decide)) (Qo.flat rfl) rfl λd h hR=>?_
  ·simp only[go_sem,-Nat.reducePow,aj]
  obtain⟨rfl,rfl⟩:=hR;refine Zb hb ?_;simp only[go_sem,-Nat.reducePow,aj];refine KB hb ON rfl ?_ (Pw (n / d) 1 (by omega) (by decide)) (Qo.flat rfl) rfl λd h hR=>?_
  ·simp only[go_sem,-Nat.reducePow,aj]
  obtain⟨rfl,rfl⟩:=hR;refine Zb hb ?_;simp only[go_sem,-Nat.reducePow,aj];have e2:(n / d+1) % 2 ^ 128=cdiv n d:=by omega
  simp only[go_sem,-Nat.reducePow,e2];refine ZA hb Qec rfl ?_ (QfE (cdiv n d) (by omega)) (Qo.flat rfl) rfl λd h hR=>?_
  ·simp only[go_sem,-Nat.reducePow]
  obtain⟨rfl,rfl⟩:=hR;refine Qf hb ?_;simp only[go_sem,-Nat.reducePow]
def Ve(a d b:Nat):Int:=if 4294967295<a\/4294967295<b\/1048576<d then 0 else if a=0/\b=0/\d=0 then 1 else if d=0/\a=b then 2 else if d=0 then 0 else if b<a then 3 else if a=0/\0<b then 4 else 0
@[go_sem] def lu(a d b:Nat):D:=.agg [u64 a,u64 d,u64 b]
def Pz(a d b):Zh prog 186 [lu a d b] (Qo (Qb (Ve a d b))):=by
 refine Zy 0 Qh 200 func186 rfl ntmps186 results186 rfl λbase w hb=>?_;simp only[go_sem,-Nat.reducePow]
 repeat' (first|((first|refine EX (λh=>?_) (λh=>?_)|refine EY (λh=>?_) (λh=>?_)|refine EZ (λh=>?_) (λh=>?_)|refine vg (λh=>?_) (λh=>?_)|refine E0 (λh=>?_) (λh=>?_)|refine E6 (λh=>?_) (λh=>?_)|refine E7 (λh=>?_) (λh=>?_)|refine ET (λh=>?_) (λh=>?_))<;>(try simp only[go_sem,-Nat.reducePow]))|(refine And.intro (by omega) ?_;try simp only[go_sem,-Nat.reducePow]))
 all_goals (congr 2;(try simp only[ZJ,F9,yD,Ea,zY,zX,bne_iff_ne,bne_eq_false_iff_eq,Yq,NP,ne_eq]at *);(try unfold Ve);(repeat' split)<;>omega)
def QuR(a d b):Ve a d b=0\/Ve a d b=1\/Ve a d b=2\/Ve a d b=3\/Ve a d b=4:=by unfold Ve;(repeat' split)<;>simp
def lz{a d b}(h:Ve a d b≠0):a<=4294967295/\b<=4294967295/\d<=1048576:=by unfold Ve at h;split at h<;>omega
def Qmk(a d b):Zh prog 194 [lu a d b] (Qo (QY (Ve a d b != 0))):=by
 refine Zy 0 Qh 200 func194 rfl ntmps194 results194 rfl λbase w hb=>?_;simp only[go_sem,-Nat.reducePow];refine ZA hb CO rfl ?_ (Pz a d b) (Qo.flat rfl) rfl λd h hR=>?_
 ·simp only[go_sem,-Nat.reducePow]
 obtain⟨rfl,rfl⟩:=hR;refine Qf hb ?_;simp only[go_sem,-Nat.reducePow]
def vC(a d b t:Nat):Nat:=if Ve a d b=0 then 0 else a*min t d+b*(t - min t d)
def QuS(a d b t)(ht:t<18446744073709551616):vC a d b t<2 ^ 97:=by
 unfold vC;split
 ·decide
 ·rename_i h;obtain⟨h1,h2,h3⟩:=lz h;have e1:a*min t d<=4294967295*1048576:=kO h1 (by omega);have e2:b*(t - min t d)<=4294967295*18446744073709551615:=kO h2 (by omega);exact NK (Nat.add_le_add e1 e2) (by decide)
def Fy(a b:Nat):(min (a:Int) (b:Int))=((min a b:Nat):Int):=by omega
def QuT(a d b t)(ht:t<18446744073709551616):Zh prog 245 [lu a d b,u64 t] (Qo (num (vC a d b t))):=by
 refine Zy 0 Qh 200 func245 rfl ntmps245 results245 rfl λbase w hb=>?_;simp only[go_sem,-Nat.reducePow];refine ZA hb LC rfl ?_ (Qmk a d b) (Qo.flat rfl) rfl λd h hR=>?_
 ·simp only[go_sem,-Nat.reducePow]
 obtain⟨rfl,rfl⟩:=hR;refine Qf hb ?_;simp only[go_sem,-Nat.reducePow];by_cases h:Ve a d b=0
 ·have e1:vC a d b t=0:=Qg h;have e2:(Ve a d b != 0)=false:=by simp[h]
  simp only[go_sem,-Nat.reducePow,e1,e2]
 ·have e1:vC a d b t=a*min t d+b*(t - min t d):=Qd h;have e2:(Ve a d b != 0)=true:=by simp[h]
  obtain⟨h1,h2,h3⟩:=lz h;have e3:=UU t (min t d) (by omega) ht;have b1:a*min t d<=4294967295*1048576:=kO h1 (by omega);have b2:b*(t - min t d)<=4294967295*18446744073709551615:=kO h2 (by omega);simp only[go_sem,-Nat.reducePow,e1,e2,Fy,e3];apply QH hb [0,1,2,4,5,6,7,8,1003,1009,1010,11,12,13,1014,1015,16];simp only[go_sem,-Nat.reducePow,Fy,e3];refine KB hb Al rfl ?_ (AA a (min t d) (by omega) (by omega)) (Qo.flat rfl) rfl λd h hR=>?_
  ·simp only[go_sem,-Nat.reducePow,Fy,e3]
  obtain⟨rfl,rfl⟩:=hR;refine Zb hb ?_;simp only[go_sem,-Nat.reducePow,Fy,e3];refine KB hb Al rfl ?_ (AA b (t - min t d) (by omega) (by omega)) (Qo.flat rfl) rfl λd h hR=>?_
  ·simp only[go_sem,-Nat.reducePow,Fy,e3]
  obtain⟨rfl,rfl⟩:=hR;refine Zb hb ?_;simp only[go_sem,-Nat.reducePow,Fy,e3];refine KB hb ON rfl ?_ (Pw (a*min t d) (b*(t - min t d)) (by omega) (by omega)) (Qo.flat rfl) rfl λd h hR=>?_
  ·simp only[go_sem,-Nat.reducePow,Fy,e3]
  obtain⟨rfl,rfl⟩:=hR;refine Zb hb ?_;simp only[go_sem,-Nat.reducePow,Fy,e3];rw[yG (by omega)]
structure Ln where
 x:Nat
 y:Nat
 m:Nat
deriving DecidableEq
instance:Inhabited Ln:=⟨⟨0,0,0⟩⟩
structure Ln.Ok (l:Ln):Prop where
 x:l.x<18446744073709551616
 y:l.y<2 ^ 128
 m:l.m<18446744073709551616
@[go_sem] def Ln.cells(l:Ln):List D:=[u64 l.x,u64 (l.y / 18446744073709551616),u64 (l.y % 18446744073709551616),u64 l.m]
def jy(l:Ln)(x:Nat):Nat:=if x<=l.x then l.y else (l.y+l.m*(x - l.x)) % 2 ^ 128
def QfG{a b}(ha:a<18446744073709551616)(hb:b<18446744073709551616):a*b<2 ^ 128:=by
 have:a*b<=18446744073709551615*18446744073709551615:=kO (by omega) (by omega);exact NK this (by decide)
def QfH{l:Ln}(h:l.Ok)(x):jy l x<2 ^ 128:=by
 unfold jy;split
 ·exact h.y
 ·exact XX _ (by decide)
def QfI(l:Ln)(h:l.Ok)(x)(hx:x<18446744073709551616):Zh prog 267 [.agg l.cells,u64 x] (Qo (num (jy l x))):=by
 unfold jy;refine Zy 0 Qh 200 func267 rfl ntmps267 results267 rfl λbase w hb=>?_;simp only[go_sem];by_cases h1:x<=l.x
 ·have d1:=Q7 h1;simp only[go_sem,d1,Qg h1]
 ·have d1:=QQ h1;have e1:=UU x l.x (by omega) hx;simp only[go_sem,d1,Qd h1];apply QH hb [0,1,2,3,4,5,6,7,1008,1009,10,11,12,1013,1014,15];simp only[go_sem,e1];refine KB hb Al rfl ?_ (AA l.m (x - l.x) h.m (by omega)) (Qo.flat rfl) rfl λd h hR=>?_
  ·simp only[go_sem,e1]
  obtain⟨rfl,rfl⟩:=hR;refine Zb hb ?_;simp only[go_sem,e1];refine K9 hb ON (Pw l.y (l.m*(x - l.x)) h.y (QfG h.m (by omega))) (Qo.flat rfl) λd h hR=>?_;obtain⟨rfl,rfl⟩:=hR;exact LW hb
def AB(l:Ln)(w:Nat):Nat:=
 if w<=l.y then 0
 else if l.m=0\/18446744073709551616<=cdiv (w - l.y) l.m\/never<=l.x\/never - l.x<=cdiv (w - l.y) l.m then never
 else l.x+cdiv (w - l.y) l.m
def QfJ(l)(w):AB l w<=never:=by
 unfold AB;split<;>try split
 ·exact JQ _
 ·exact QD _
 ·omega
def QuU(n)(hn:n<2 ^ 128):Zh prog 275 [num n,u64 0] (Qo (.tup [u64 0,Qb 1])):=by
 refine Zy 0 Qh 200 func275 rfl ntmps275 results275 rfl λbase w hb=>?_;simp only[go_sem];refine ZA hb Qeb rfl ?_ (QfC n 0 hn (by decide)) (Qo.flat rfl) rfl λd h hR=>?_
 ·simp only[go_sem,K6]
 obtain⟨rfl,rfl⟩:=hR;refine Qf hb ?_;simp only[go_sem,K6]
def QfK{a b:Nat}:((if a<b then (-1:Int) else if a=b then 0 else 1)<=0)↔a<=b:=by
 split
 ·omega
 ·split<;>omega
def QuV{a b:Nat}:((if a<b then (-1:Int) else if a=b then 0 else 1)<0)↔a<b:=by
 split
 ·omega
 ·split<;>omega
def QfL{a b}(ha:a<2 ^ 128)(h:b<=a):(a+2 ^ 128 - b) % 2 ^ 128=a - b:=by
 rw[show a+2 ^ 128 - b=a - b+2 ^ 128 by omega,Nat.add_mod_right,yG (by omega)]
def ak(l:Ln)(h:l.Ok)(v)(hv:v<2 ^ 128):Zh prog 264 [.agg l.cells,num v] (Qo (u64 (AB l v))):=by
 unfold AB;refine Zy 0 Qh 200 func264 rfl ntmps264 results264 rfl λbase w hb=>?_;simp only[go_sem];refine Wj hb fX (iW v l.y hv h.y) (Qo.flat rfl) λd h hR=>?_;obtain⟨rfl,rfl⟩:=hR;apply ZC hb;by_cases h1:v<=l.y
 ·have d1:=Q7 (QfK.2 h1);simp only[go_sem,d1,Qg h1]
 ·have d1:=QQ (λh2=>h1 (QfK.1 h2));rw[Qd h1];simp only[go_sem,d1];refine ZA hb Qst rfl ?_ (QuI v l.y hv h.y) (Qo.flat rfl) rfl λd h hR=>?_
  ·simp only[go_sem,QfL hv (show l.y<=v by omega)]
  obtain⟨rfl,rfl⟩:=hR;refine Qf hb ?_;simp only[go_sem,QfL hv (show l.y<=v by omega)];by_cases h2:l.m=0
  ·rw[Qg (.inl h2)];refine ZA hb Qd9 rfl ?_ (QuU (v - l.y) (by omega)) (Qo.flat rfl) rfl λd h hR=>?_
   ·simp only[go_sem,h2]
   obtain⟨rfl,rfl⟩:=hR;refine Qf hb ?_;simp only[go_sem,h2];rfl
  ·refine Wj hb Qd9 (QuQ (v - l.y) l.m (by omega) h.m (by omega)) (Qo.flat rfl) λd h hR=>?_;obtain⟨rfl,rfl⟩:=hR;apply ZC hb;by_cases h3:cdiv (v - l.y) l.m<18446744073709551616
   ·have e1:Mg (cdiv (v - l.y) l.m)=0:=Qg h3;have e2:Py (cdiv (v - l.y) l.m)=cdiv (v - l.y) l.m:=Qg h3;by_cases h4:never<=l.x
    ·have d4:decide ((9223372036854775808:Int)<=(l.x:Int))=true:=Q7 (by unfold never at h4;omega);rw[Qg (.inr (.inr (.inl h4)))];simp only[go_sem,e1,e2,d4];rfl
    ·have d4:decide ((9223372036854775808:Int)<=(l.x:Int))=false:=QQ (by unfold never at h4;omega);have e5:IntKind.u64.wrap ((9223372036854775808:Int) - (l.x:Int))=((never - l.x:Nat):Int):=by
      have:=UU 9223372036854775808 l.x (by unfold never at h4;omega) (by decide);exact this
     by_cases h5:never - l.x<=cdiv (v - l.y) l.m
     ·have d5:=Q7 h5;rw[Qg (.inr (.inr (.inr h5)))];simp only[go_sem,e1,e2,d4,e5,d5];rfl
     ·have d5:=QQ h5;have e6:=QeD l.x (cdiv (v - l.y) l.m) (by unfold never at h5;omega);rw[Qd (by rintro (h6|h6|h6|h6);exact h2 h6;omega;exact h4 h6;exact h5 h6)];simp only[go_sem,e1,e2,d4,e5,d5,e6]
   ·have e1:Mg (cdiv (v - l.y) l.m)=20:=Qd h3;rw[Qg (.inr (.inl (by omega)))];simp only[go_sem,e1];rfl
def Dr(a b:Ln):Ln:=if jy b (max a.x b.x)<jy a (max a.x b.x) then b else a
def QfM{a b:Ln}(ha:a.Ok)(hb:b.Ok):(Dr a b).Ok:=by unfold Dr;split<;>assumption
def Fz(a b:Nat):(max (a:Int) (b:Int))=((max a b:Nat):Int):=by omega
def QfN(a b:Ln)(ha:a.Ok)(ZB:b.Ok):Zh prog 254 [.agg a.cells,.agg b.cells] (Qo (.agg (Dr a b).cells)):=by
 have hx:max a.x b.x<18446744073709551616:=by have:=ha.x;have:=ZB.x;omega
 unfold Dr;obtain⟨k,hk⟩:∃k,k=(if jy b (max a.x b.x)<jy a (max a.x b.x) then (-1:Int) else if jy b (max a.x b.x)=jy a (max a.x b.x) then 0 else 1):=⟨_,rfl⟩;have Bg:k<0↔jy b (max a.x b.x)<jy a (max a.x b.x):=by rw[hk];exact QuV
 refine Zy 0 Qh 200 func254 rfl ntmps254 results254 rfl λbase w hb=>?_;simp only[go_sem];simp only[go_sem,Fz];apply QH hb [0,1,3,4,1002,1005,1006,7];simp only[go_sem,Fz];refine KB hb Qd6 rfl ?_ (QfI b ZB (max a.x b.x) hx) (Qo.flat rfl) rfl λd h hR=>?_
 ·simp only[go_sem,Fz]
 obtain⟨rfl,rfl⟩:=hR;refine Zb hb ?_;simp only[go_sem,Fz];refine KB hb Qd6 rfl ?_ (QfI a ha (max a.x b.x) hx) (Qo.flat rfl) rfl λd h hR=>?_
 ·simp only[go_sem,Fz]
 obtain⟨rfl,rfl⟩:=hR;refine Zb hb ?_;simp only[go_sem,Fz];refine KB hb fX rfl ?_ (hk▸iW (jy b (max a.x b.x)) (jy a (max a.x b.x)) (QfH ZB _) (QfH ha _)) (Qo.flat rfl) rfl λd h hR=>?_
 ·simp only[go_sem,Fz]
 obtain⟨rfl,rfl⟩:=hR;refine Zb hb ?_;simp only[go_sem,Fz];by_cases h1:jy b (max a.x b.x)<jy a (max a.x b.x)
 ·have d1:=Q7 (Bg.2 h1);simp only[go_sem,d1,Qg h1]
 ·have d1:=QQ (λh2=>h1 (Bg.1 h2));rw[Qd h1];simp only[go_sem,d1]
structure Rn where
 f:Ln
 t:Ln
 b:Bool
deriving DecidableEq
instance:Inhabited Rn:=⟨⟨default,default,false⟩⟩
structure Rn.Ok (r:Rn):Prop where
 f:r.f.Ok
 t:r.t.Ok
@[go_sem] def Rn.cells(r:Rn):List D:=[u64 r.f.x,u64 (r.f.y / 18446744073709551616),u64 (r.f.y % 18446744073709551616),u64 r.f.m,u64 r.t.x,u64 (r.t.y / 18446744073709551616),u64 (r.t.y % 18446744073709551616),u64 r.t.m,QY r.b]
def QuW(n:Nat)(h:n<18446744073709551616):IntKind.u64.wrap (n:Int)=(n:Int):=by rw[IntKind.wrap_u64];omega
@[go_sem] def cfg(t l:Int):D:=.agg [.raw (.int .i64 t),.raw (.int .i64 l)]
def QuX(n t:Nat)(hn:n<2 ^ 128)(ht:t<=65536)(kW:n*t<2 ^ 128):Zh prog 242 [num n,Qb t] (Qo (num (n*t))):=by
 obtain⟨hi,lo,ZE,rfl⟩:∃hi lo,lo<18446744073709551616/\n=hi*18446744073709551616+lo:=⟨n / 18446744073709551616,n % 18446744073709551616,XX _ (by decide),by omega⟩;have hh:hi<18446744073709551616:=by omega
 have e1:(hi*18446744073709551616+lo) / 18446744073709551616=hi:=by omega
 have e2:(hi*18446744073709551616+lo) % 18446744073709551616=lo:=by omega
 obtain⟨A,hA⟩:∃A,A=lo*t:=⟨_,rfl⟩;obtain⟨B,hB⟩:∃B,B=hi*t:=⟨_,rfl⟩;have e3:(hi*18446744073709551616+lo)*t=B*18446744073709551616+A:=by rw[hA,hB,Vl,NL,IA 18446744073709551616 t,<- NL]
 rw[e3]at kW;rw[e3];have hm:=AA lo t ZE (by omega);rw[<- hA]at hm;have w1:=QuW t (by omega);have w2:=Qtr hi t (by rw[<- hB];omega);rw[<- hB]at w2;have w3:=QeD (A / 18446744073709551616) B (by omega);have r1:(B*18446744073709551616+A) / 18446744073709551616=A / 18446744073709551616+B:=by rw[Nat.add_comm,Nat.add_mul_div_right _ _ (by decide)]
 have r2:(B*18446744073709551616+A) % 18446744073709551616=A % 18446744073709551616:=by rw[Nat.add_comm,Nat.add_mul_mod_self_right]
 refine Zy 0 Qh 200 func242 rfl ntmps242 results242 rfl λbase w hb=>?_;simp only[go_sem];simp only[e1,e2,w1,go_sem];refine ZA hb Al rfl ?_ hm (Qo.flat rfl) rfl λd h hR=>?_
 ·simp only[go_sem,w1,w2,w3]
 obtain⟨rfl,rfl⟩:=hR;refine Qf hb ?_;simp only[go_sem,w1,w2,w3];simp only[e1,e2,w1,w2,w3,go_sem,r1,r2]
def QfO(n t k:Nat)(hn:n<2 ^ 111)(ht:t<=65536)(hk:k<18446744073709551616):Zh prog 198 [num n,Qb t,u64 k] (Qo (QY (decide (65536*k<n*t)))):=by
 have h1:n*t<=n*65536:=Nat.mul_le_mul_left n ht;have hc:=iW (n*t) (65536*k) (by omega) (by omega);have e:decide ((if n*t<65536*k then (-1:Int) else if n*t=65536*k then 0 else 1) > 0)=decide (65536*k<n*t):=by
  rw[kG];simp only[Yq];(repeat' split)<;>omega
 have hm:=AA 65536 k (by decide) hk;refine Zy 0 Qh 200 func198 rfl ntmps198 results198 rfl λbase w hb=>?_;simp only[go_sem];refine Wj hb Qsj (QuX n t (by omega) ht (by omega)) (Qo.flat rfl) λd h hR=>?_;obtain⟨rfl,rfl⟩:=hR;apply ZC hb;refine ZA hb Al rfl ?_ hm (Qo.flat rfl) rfl λd h hR=>?_
 ·simp only[go_sem,QfD]
 obtain⟨rfl,rfl⟩:=hR;refine Qf hb ?_;simp only[go_sem,QfD];refine ZA hb fX rfl ?_ hc (Qo.flat rfl) rfl λd h hR=>?_
 ·simp only[go_sem,e]
 obtain⟨rfl,rfl⟩:=hR;refine Qf hb ?_;simp only[go_sem,e]
@[go_sem] def kls(l:List Qn):D:=.imm 14 l.length (Qn.rows l)
def QuY(h:List Ob):MFn prog 67 h [] (λd h'=>d=.ptr (h.length+1) 0 0 0/\h'=h++[QM .i64 0 [],⟨.one,0,1,1,λ_=>[.mref h.length 0]⟩]):=by
 refine QU Qh 200 func67 rfl ntmps67 results67 rfl λbase w pl hb=>?_;simp only[go_sem,Qa]
structure wF {α:Type} [Inhabited α] (enc:α->List D) (L:List α) (off:Nat) (row:Nat->List D):Prop where
 at_:∀i,i<L.length->row (off+i)=enc (L.getD i default)
 all:∀i,i<off+L.length->∃a,row i=enc a
def QEm{α:Type}[Inhabited α](sz:Nat)(enc:α->List D)(L:List α)(d:D)(h:List Ob):Prop:=∃g off row,d=.ref 0 g off L.length/\h=[⟨.arr,g,sz,off+L.length,row⟩]/\wF enc L off row
def QEm.flat{α:Type}[Inhabited α]{sz:Nat}{enc:α->List D}{L:List α}(hf:∀a,EM (enc a)=true):∀d h,QEm sz enc L d h->d.flat=true/\∀o∈h,o.flat:=by
 rintro d h ⟨g,off,row,rfl,rfl,hr⟩;refine⟨rfl,λo ho i hi=>?_⟩;simp at ho;subst ho;obtain⟨a,ha⟩:=hr.all i hi;show EM (row i)=true;rw[ha];exact hf a
def wF.nil{α:Type}[Inhabited α]{enc:α->List D}{row:Nat->List D}:wF enc [] 0 row:=⟨λi hi=>absurd hi (XY i),λi hi=>absurd hi (XY i)⟩
def wF.app{α:Type}[Inhabited α]{enc}{L:List α}{off}{row}(h:wF enc L off row)(x:α){r2}(h2:r2 0=enc x):wF enc (L++[x]) 0 (J2 L.length off row r2):=by
 have key:∀i,i<L.length+1->J2 L.length off row r2 i=enc ((L++[x]).getD i default):=λi hi=>by
  by_cases Yx:i<L.length
  ·rw[yL Yx,h.at_ i Yx];simp[Yx,Jy Yx]
  ·have:i=L.length:=by omega
   subst this;rw[vV (QD _),Cd,h2];simp
 exact⟨λi hi=>by simp at hi;rw[JG];exact key i hi,λi hi=>by simp at hi;exact⟨_,key i hi⟩⟩
def wF.tail{α:Type}[Inhabited α]{enc}{L:List α}{off}{row}(h:wF enc L off row)(QB:0<L.length):wF enc L.tail (off+1) row:=by
 refine⟨λi hi=>?_,λi hi=>h.all i (by simp at hi;omega)⟩;simp at hi;rw[show off+1+i=off+(i+1) by omega,h.at_ (i+1) (by omega)];cases L with
 | nil=>simp at hi
 | cons a r=>simp
def wF.upto{α:Type}[Inhabited α]{enc}{L:List α}{off}{row}(h:wF enc L off row){k}(hu:∀a,y0 k (enc a)=true):∀i,i<off+L.length->y0 k (row i)=true:=λi hi=>by
 obtain⟨a,ha⟩:=h.all i hi;rw[ha];exact hu a
end Go.Fg.X
namespace Go.Fg.X
open Go.Proofs Go.Fg
end Go.Fg.X
namespace Go.Fg.X
open Go.Proofs Go.Fg
end Go.Fg.X
namespace Go.Fg.X
open Go.Proofs Go.Fg
end Go.Fg.X
namespace Go.Fg.X
open Go.Proofs Go.Fg
open Go.Proofs.Tryz
structure Nc where
 a:Nat
 d:Nat
 b:Nat
instance:Inhabited Nc:=⟨⟨0,0,0⟩⟩
@[go_sem] def Nc.cells(c:Nc):List D:=[u64 c.a,u64 c.d,u64 c.b]
def Nc.rows(l:List Nc):Nat->List D:=λi=>(l.getD i default).cells
@[go_sem] theorem Nc.xO(l:List Nc)(i):Nc.rows l i=(l.getD i default).cells:=rfl
@[go_sem] def Xh(l:List Nc):D:=.imm 3 l.length (Nc.rows l)
@[go_sem] def BG(c:Nc):D:=.agg c.cells
def Nc.of(c:Nc):Int:=Ve c.a c.d c.b
def Nc.Lt(c:Nc):Prop:=c.a<18446744073709551616/\c.d<18446744073709551616/\c.b<18446744073709551616
def QfP(F:List Ob)(f nf:Nat)(Qz:List D)(g:Nc->Nat):Prop:=∀(h:List Ob) (c:Nc),c.Lt->KZ F h->Zg prog f h (Jj nf Qz [BG c]) (λd=>d=num (g c))
def wG(g:Nc->Nat)(s:Nat)(c:Nc):Nat:=if c.of=0 then s else s+g c
def BH(g:Nc->Nat)(l:List Nc):Nat:=l.foldl (wG g) 0
def an{g}{M}(hg:∀c:Nc,c.Lt->g c<=M):∀{l:List Nc} {s:Nat},(∀c∈l,c.Lt)->l.foldl (wG g) s<=s+l.length*M
 | [],s,_=>by simp
 | c::l,s,h=>by
  have h1:=hg c (h c (by simp));have h2:=an hg (l:=l) (s:=wG g s c) λx hx=>h x (by simp[hx]);have h3:wG g s c<=s+M:=by unfold wG;split<;>omega
  simp only[xj,Vu,Vl,Qam];omega
def Hv(n:Nat):Ob:=⟨.one,0,2,1,λ_=>[u64 (n / 18446744073709551616),u64 (n % 18446744073709551616)]⟩
structure OvI (l:List Nc) (so:D) (g:Nc->Nat) (F:List Ob) (i:Nat) (s:St):Prop where
 ex:∃G:List Ob,s=⟨[(1,so),(4,.ptr F.length 0 0 0),(5,.ptr (F.length+1) 0 0 0),(8,Xh l),(9,Qb l.length),(10,Qb i)],F++(Hv 0::Hv ((l.take i).foldl (wG g) 0)::G)⟩
def QfQ(h:List Ob)(l:List Nc)(hl:l.length<1048576)(hc:∀c∈l,c.Lt)(so:D)(f nf:Nat)(Qz:List D)(hf:Qq prog f)(Vd:J4 so=some (f,nf,Qz))(g:Nc->Nat)(hgM:∀c:Nc,c.Lt->g c<=2 ^ 97)
  (hg:QfP (h.map Ob.ro) f nf Qz g):Zg prog 243 h [Xh l,so] (λd=>d=num (BH g l)):=by
 refine Zt Qh 200 func243 rfl ntmps243 results243 rfl λbase w pl F hF Za hb=>?_;simp only[go_sem,Qa];refine ZZ (OvI l so g F) l.length (s0:=⟨[(1,so),(4,.ptr F.length 0 0 0),(5,.ptr (F.length+1) 0 0 0),(8,Xh l),(9,Qb l.length),(10,Qb 0)],F++[Hv 0,Hv 0]⟩) QO ⟨[],rfl⟩ ?_;rintro i s hi ⟨G,rfl⟩;have Zq:=Vp (show i<4611686018427387904 by omega);obtain⟨S,hS⟩:∃S,S=(l.take i).foldl (wG g) 0:=⟨_,rfl⟩;have gC:S<=2 ^ 117:=by
  have h1:=an hgM (l:=l.take i) (s:=0) λx hx=>hc x (List.mem_of_mem_take hx);have h2:(l.take i).length<=1048576:=by simp;omega
  have h3:=Yp (2 ^ 97) h2;rw[hS];omega
 rw[<- hS];apply Q1 hb;first|refine Ad hi (λQs=>?_) (λQs=>?_)|refine Ae hi (λQs=>?_) (λQs=>?_)
 ·obtain⟨c,VE⟩:∃c,c=l.getD i default:=⟨_,rfl⟩;have Z6:c.Lt:=hc c (by rw[VE,Q8,QP Qs];exact qz Qs);have Jg:(l.take (i+1)).foldl (wG g) 0=wG g S c:=by
   rw[Eh,QP Qs,Option.toList_some,Gf,hS,VE,Q8,QP Qs];rfl
  simp only[go_sem,Qa,Qs,<- VE];refine Ax hb LC (Qmk c.a c.d c.b) (Qo.flat rfl) λd h hR=>?_;obtain⟨rfl,rfl⟩:=hR;apply Q1 hb;by_cases h0:c.of=0
  ·have N9:Ve c.a c.d c.b=0:=h0;have Jk:wG g S c=S:=by rw[wG,Qg h0]
   simp only[go_sem,Qa,zl N9,bne];refine⟨Qs,_,QI.frame (fr':=[(1,so),(4,.ptr F.length 0 0 0),(5,.ptr (F.length+1) 0 0 0),(8,Xh l),(9,Qb l.length),(10,Qb (i+1:Nat))]) (by simp only[go_sem,Zq]),⟨_,by rw[Jg,Jk]⟩⟩
  ·have N9:Ve c.a c.d c.b≠0:=h0;have Jk:wG g S c=S+g c:=by rw[wG,Qd h0]
   have hgc:=hgM c Z6;simp only[go_sem,Qa,Xt N9,bne];have QfS:=Pw S (g c) (by omega) (by omega);rw[yG (by omega:S+g c<2 ^ 128)]at QfS;apply QH hb [0,1,2,1003,1004,5,6,7,1008];simp only[go_sem,Qa,Hv];refine Wv hb hf Vd ?_ (hg _ c Z6 (by rw[<- hF];exact⟨_,rfl⟩)) rfl λd2 hR=>?_
   ·simp only[go_sem];exact Bz _
   subst hR;apply XN hb;refine Pc hb ON QfS (Qo.flat rfl) λd h hR=>?_;obtain⟨rfl,rfl⟩:=hR;apply XN hb;refine⟨Qs,_,QI.frame (fr':=[(1,so),(4,.ptr F.length 0 0 0),(5,.ptr (F.length+1) 0 0 0),(8,Xh l),(9,Qb l.length),(10,Qb (i+1:Nat))]) (by simp only[go_sem,Zq]),⟨G++[⟨.one,0,3,1,λ_=>c.cells⟩],?_⟩⟩;rw[Jg,Jk];rfl
 ·subst Qs;rw[zW]at hS;have e:BH g l=S:=hS.symm;rw[e];refine Qf hb ?_;simp only[go_sem,Qa,Hv];exact⟨_,rfl⟩
def Qu0(h)(c:Nc)(hc:c.Lt):Zg prog 246 h [BG c] (λd=>d=num c.b):=by
 refine Zt Qh 200 func246 rfl ntmps246 results246 rfl λbase w pl F hF Za hb=>?_;simp only[go_sem,Qa];refine Ax hb Qd2 (QfA c.b hc.2.2) (Qo.flat rfl) λd h hR=>?_;obtain⟨rfl,rfl⟩:=hR;apply Q1 hb;exact⟨_,rfl⟩
def Qu1(l:List Nc)(hl:l.length<1048576)(hc:∀c∈l,c.Lt):Zh prog 200 [Xh l] (Qo (num (BH (λc=>c.b) l))):=by
 refine Zy 0 Qh 200 func200 rfl ntmps200 results200 rfl λbase w hb=>?_;simp only[go_sem];refine ZT hb Qd1 rfl ?_ (QfQ _ l hl hc (.raw (.func (.func 246) ⟨[]⟩ ⟨[]⟩)) 246 0 [] Qsm rfl (λc=>c.b) (λc h=>by have:=h.2.2;omega) (λh' c hc _=>Qu0 h' c hc)) rfl λd2 hR=>?_
 ·simp only[go_sem]
 subst hR;exact xY hb
def Qu2(h:List Ob)(b1 t)(ht:t<18446744073709551616)(c:Nc)(h1:(h.map Ob.ro)[b1]? = some ⟨.Wd,0,1,1,λ_=>[u64 t]⟩):Zg prog 244 h [BG c,.ptr b1 0 0 0] (λd=>d=num (vC c.a c.d c.b t)):=by
 refine Zt Qh 200 func244 rfl ntmps244 results244 rfl λbase w pl F hF Za hb=>?_;rw[<- hF]at h1;have QG:=Qc h1;simp only[go_sem,Qa,h1,QG];refine ZA hb Qsl rfl ?_ (QuT c.a c.d c.b t ht) (Qo.flat rfl) rfl λd h hR=>?_
 ·simp only[go_sem,Qa,h1,QG]
 obtain⟨rfl,rfl⟩:=hR;refine Qf hb ?_;simp only[go_sem,Qa,h1,QG];exact⟨_,rfl⟩
def Qu3(l:List Nc)(t)(ht:t<18446744073709551616)(hl:l.length<1048576)(hc:∀c∈l,c.Lt):Zh prog 199 [Xh l,u64 t] (Qo (num (BH (λc=>vC c.a c.d c.b t) l))):=by
 have hM:∀c:Nc,c.Lt->vC c.a c.d c.b t<=2 ^ 97:=λc _=>by have:=QuS c.a c.d c.b t ht;omega
 refine Zy 0 Qh 200 func199 rfl ntmps199 results199 rfl λbase w hb=>?_;simp only[go_sem];have hT:QfP (([⟨.one,0,1,1,λ_=>[u64 t]⟩,Hv 0]:List Ob).map Ob.ro) 244 0 [.ptr 0 0 0 0] (λc=>vC c.a c.d c.b t):=λh' c hc hx=>by
  obtain⟨g,rfl⟩:=hx;exact Qu2 _ 0 t ht c rfl
 refine ZT hb Qd1 rfl ?_ (QfQ _ l hl hc (.clo 244 0 [.ptr 0 0 0 0]) 244 0 [.ptr 0 0 0 0] Qsk rfl (λc=>vC c.a c.d c.b t) hM hT) rfl λd2 hR=>?_
 ·simp only[go_sem]
 subst hR;exact xY hb
@[go_sem] theorem Ln.QEo(l:Ln):l.cells=[u64 l.x,u64 (l.y / 18446744073709551616),u64 (l.y % 18446744073709551616),u64 l.m]:=rfl
def vD(c:Nc)(x y:Nat):Rn:=
 if c.of=2\/c.of=4 then ⟨⟨0,0,0⟩,⟨x,y,c.b⟩,false⟩
 else if c.of=3 then ⟨⟨x,y,c.a⟩,⟨x,(y+(c.a - c.b)*c.d) % 2 ^ 128,c.b⟩,true⟩
 else ⟨⟨0,0,0⟩,⟨x,y,0⟩,false⟩
def VF(c:Nc)(x y:Nat):Rn:=
 if c.of=4 then ⟨⟨0,0,0⟩,⟨(x+c.d) % 18446744073709551616,y,c.b⟩,false⟩ else vD c x y
def Ln.jz:(⟨0,0,0⟩:Ln).Ok:=⟨by decide,by decide,by decide⟩
def aq{c:Nc}(hc:c.Lt){x y:Nat}(hx:x<18446744073709551616)(hy:y<2 ^ 128):(vD c x y).Ok:=by
 unfold vD;split
 ·exact⟨Ln.jz,hx,hy,hc.2.2⟩
 ·split
  ·exact⟨⟨hx,hy,hc.1⟩,hx,XX _ (by decide),hc.2.2⟩
  ·exact⟨Ln.jz,hx,hy,(by decide:(0:Nat)<18446744073709551616)⟩
def Hw{c:Nc}(hc:c.Lt){x y:Nat}(hx:x<18446744073709551616)(hy:y<2 ^ 128):(VF c x y).Ok:=by
 unfold VF;split
 ·exact⟨Ln.jz,XX _ (by decide),hy,hc.2.2⟩
 ·exact aq hc hx hy
def Qml{c:Nc}(e:c.of=2\/c.of=4)(x y):vD c x y=⟨⟨0,0,0⟩,⟨x,y,c.b⟩,false⟩:=Qg e
def Qu4{c:Nc}(e:c.of=3)(x y):vD c x y=⟨⟨x,y,c.a⟩,⟨x,(y+(c.a - c.b)*c.d) % 2 ^ 128,c.b⟩,true⟩:=by unfold vD;rw[Qd (by omega),Qg e]
def QfT{c:Nc}(e:c.of=0\/c.of=1)(x y):vD c x y=⟨⟨0,0,0⟩,⟨x,y,0⟩,false⟩:=by unfold vD;rw[Qd (by omega),Qd (by omega)]
def QfU(c:Nc)(hc:c.Lt)(x y:Nat)(hx:x<18446744073709551616)(hy:y<2 ^ 128):Zh prog 217 [BG c,u64 x,num y] (Qo (.agg (vD c x y).cells)):=by
 refine Zy 0 Qh 200 func217 rfl ntmps217 results217 rfl λbase w hb=>?_;simp only[go_sem];refine Wj hb CO (Pz c.a c.d c.b) (Qo.flat rfl) λd h hR=>?_;obtain⟨rfl,rfl⟩:=hR;apply ZC hb;rcases QuR c.a c.d c.b with e|e|e|e|e
 ·rw[QfT (.inl e)];simp only[go_sem,e]
 ·rw[QfT (.inr e)];simp only[go_sem,e]
 ·rw[Qml (.inl e)];simp only[go_sem,e]
 ·have ZB:c.b<c.a/\c.a<=4294967295:=by
   unfold Ve at e
   repeat' (split at e)
   all_goals first|omega|contradiction
  have e1:=UU c.a c.b (by omega) (by omega);rw[Qu4 e];simp only[go_sem,e,e1];apply QH hb [0,1,2,3,4,5,6,7,1008,1009,10,11,12,1013,1014,15];simp only[go_sem,e1];refine KB hb Al rfl ?_ (AA (c.a - c.b) c.d (by omega) hc.2.1) (Qo.flat rfl) rfl λd h hR=>?_
  ·simp only[go_sem,e1]
  obtain⟨rfl,rfl⟩:=hR;refine Zb hb ?_;simp only[go_sem,e1];refine KB hb ON rfl ?_ (Pw y ((c.a - c.b)*c.d) hy (QfG (by omega) hc.2.1)) (Qo.flat rfl) rfl λd h hR=>?_
  ·simp only[go_sem,e1]
  obtain⟨rfl,rfl⟩:=hR;refine Zb hb ?_;simp only[go_sem,e1]
 ·rw[Qml (.inr e)];simp only[go_sem,e]
def QmH(c:Nc)(hc:c.Lt)(x y:Nat)(hx:x<18446744073709551616)(hy:y<2 ^ 128):Zh prog 216 [BG c,u64 x,num y] (Qo (.agg (VF c x y).cells)):=by
 refine Zy 0 Qh 200 func216 rfl ntmps216 results216 rfl λbase w hb=>?_;simp only[go_sem];refine Wj hb QdW (QfU c hc x y hx hy) (Qo.flat rfl) λd h hR=>?_;obtain⟨rfl,rfl⟩:=hR;apply ZC hb;refine Wj hb CO (Pz c.a c.d c.b) (Qo.flat rfl) λd h hR=>?_;obtain⟨rfl,rfl⟩:=hR;apply ZC hb;by_cases e:c.of=4
 ·have e0:Ve c.a c.d c.b=4:=e;rw[Qml (.inr e),show VF c x y=⟨⟨0,0,0⟩,⟨(x+c.d) % 18446744073709551616,y,c.b⟩,false⟩ from Qg e];simp only[go_sem,e0,Hf]
 ·have e0:(Ve c.a c.d c.b==4)=false:=by simpa[Nc.of] using e
  rw[show VF c x y=vD c x y from Qd e];simp only[go_sem,e0]
def qh(a b:Rn):Rn:=⟨if a.b then Dr a.f b.f else ⟨0,0,0⟩,Dr a.t b.t,a.b⟩
def lD{a b:Rn}(ha:a.Ok)(hb:b.Ok):(qh a b).Ok:=by
 refine⟨?_,QfM ha.t hb.t⟩;unfold qh;dsimp only;split
 ·exact QfM ha.f hb.f
 ·exact Ln.jz
def ar(a b:Rn)(ha:a.Ok)(ZB:b.Ok):Zh prog 215 [.agg a.cells,.agg b.cells] (Qo (.agg (qh a b).cells)):=by
 refine Zy 0 Qh 200 func215 rfl ntmps215 results215 rfl λbase w hb=>?_;simp only[go_sem];apply QH hb [0,1,2,3,5,6,1004,7,1008,1009];simp only[go_sem];refine K9 hb Qd3 (QfN a.t b.t ha.t ZB.t) (Qo.flat rfl) λd h hR=>?_;obtain⟨rfl,rfl⟩:=hR;apply V6 hb;cases h:a.b with
 | true=>
  rw[show qh a b=⟨Dr a.f b.f,Dr a.t b.t,true⟩ from by unfold qh;rw[h];rfl];simp only[go_sem,h];refine Wj hb Qd3 (QfN a.f b.f ha.f ZB.f) (Qo.flat rfl) λd h hR=>?_;obtain⟨rfl,rfl⟩:=hR;exact xY hb
 | false=>
  rw[show qh a b=⟨⟨0,0,0⟩,Dr a.t b.t,false⟩ from by unfold qh;rw[h];rfl];simp only[go_sem,h]
def qN(r:Rn)(w:Nat):Nat:=if r.b then max (AB r.f w) (AB r.t w) else AB r.t w
def PA(r)(w):qN r w<=never:=by
 have:=QfJ r.f w;have:=QfJ r.t w;unfold qN;split<;>omega
def Qu5(r:Rn):Zh prog 263 [.agg r.cells] (Qo (.agg ((if r.b then r.f else r.t).cells++r.t.cells))):=by
 refine Zy 0 Qh 200 func263 rfl ntmps263 results263 rfl λbase w hb=>?_;simp only[go_sem];cases h:r.b with
 | true=>
  simp only[go_sem,h]
 | false=>
  simp only[go_sem,h]
def x8(a:Nat):max (0:Int) (a:Int)=(a:Int):=by omega
def au(r:Rn)(hr:r.Ok)(v)(hv:v<2 ^ 128):Zh prog 227 [.agg r.cells,num v] (Qo (u64 (qN r v))):=by
 have m1:∀a b:Nat,max (a:Int) (b:Int)=((max a b:Nat):Int):=λa b=>by omega
 refine Zy 0 Qh 200 func227 rfl ntmps227 results227 rfl λbase w hb=>?_;simp only[go_sem];refine Wj hb Qsr (Qu5 r) (Qo.flat rfl) λd h hR=>?_;obtain⟨rfl,rfl⟩:=hR;apply ZC hb;cases h:r.b with
 | true=>
  rw[show qN r v=max (AB r.f v) (AB r.t v) from by unfold qN;rw[h];rfl];simp only[go_sem,h];refine vv 2 ?_;apply ZC hb;refine ZA hb UE rfl ?_ (ak r.f hr.f v hv) (Qo.flat rfl) rfl λd h hR=>?_
  ·simp only[go_sem,x8]
  obtain⟨rfl,rfl⟩:=hR;refine Qf hb ?_;simp only[go_sem,x8];refine Qf hb ?_;simp only[go_sem,x8];refine Qf hb ?_;simp only[go_sem,x8];refine ZA hb UE rfl ?_ (ak r.t hr.t v hv) (Qo.flat rfl) rfl λd h hR=>?_
  ·simp only[go_sem,x8,m1]
  obtain⟨rfl,rfl⟩:=hR;refine Qf hb ?_;simp only[go_sem,x8,m1];refine Qf hb ?_;simp only[go_sem,m1];refine Qf hb ?_;simp only[go_sem,m1]
 | false=>
  rw[show qN r v=max (AB r.t v) (AB r.t v) from by unfold qN;rw[h];simp];simp only[go_sem,h];refine vv 2 ?_;apply ZC hb;refine ZA hb UE rfl ?_ (ak r.t hr.t v hv) (Qo.flat rfl) rfl λd h hR=>?_
  ·simp only[go_sem,x8]
  obtain⟨rfl,rfl⟩:=hR;refine Qf hb ?_;simp only[go_sem,x8];refine Qf hb ?_;simp only[go_sem,x8];refine Qf hb ?_;simp only[go_sem,x8];refine ZA hb UE rfl ?_ (ak r.t hr.t v hv) (Qo.flat rfl) rfl λd h hR=>?_
  ·simp only[go_sem,x8,m1]
  obtain⟨rfl,rfl⟩:=hR;refine Qf hb ?_;simp only[go_sem,x8,m1];refine Qf hb ?_;simp only[go_sem,m1];refine Qf hb ?_;simp only[go_sem,m1]
def WY(n:Nat):Nat:=n % 18446744073709551616
def Hx(n):WY n<18446744073709551616:=XX _ (by decide)
def QfV(a b:Nat):IntKind.u64.wrap ((a:Int)+(b:Int))=((WY (a+b):Nat):Int):=Hf a b
structure Du where
 has:Bool
 dl:Rn
 rd:Rn
 Jt:Nat
 Xx:Nat
 dead:Nat
deriving DecidableEq
instance:Inhabited Du:=⟨⟨false,default,default,0,0,0⟩⟩
structure Du.Ok (d:Du):Prop where
 dl:d.dl.Ok
 rd:d.rd.Ok
 Jt:d.Jt<18446744073709551616
 Xx:d.Xx<=never
 dead:d.dead<=never
@[go_sem] def Du.cells(d:Du):List D:=[QY d.has,u64 d.dl.f.x,u64 (d.dl.f.y / 18446744073709551616),u64 (d.dl.f.y % 18446744073709551616),u64 d.dl.f.m,u64 d.dl.t.x,u64 (d.dl.t.y / 18446744073709551616),u64 (d.dl.t.y % 18446744073709551616),u64 d.dl.t.m,QY d.dl.b,
 u64 d.rd.f.x,u64 (d.rd.f.y / 18446744073709551616),u64 (d.rd.f.y % 18446744073709551616),u64 d.rd.f.m,u64 d.rd.t.x,u64 (d.rd.t.y / 18446744073709551616),u64 (d.rd.t.y % 18446744073709551616),u64 d.rd.t.m,QY d.rd.b,u64 d.Jt,u64 d.Xx,u64 d.dead]
def AD(l:Du)(head:Int):Du:=
 if 0<head then ⟨l.has,l.dl,l.rd,l.Jt,qN l.rd (l.Jt*65536),qN l.dl (WY (l.Jt+head.toNat)*65536)⟩ else ⟨l.has,l.dl,l.rd,l.Jt,never,never⟩
def lF{l:Du}(h1:l.dl.Ok)(h2:l.rd.Ok)(h3:l.Jt<18446744073709551616)(head:Int):(AD l head).Ok:=by
 unfold AD;split
 ·exact⟨h1,h2,h3,PA _ _,PA _ _⟩
 ·exact⟨h1,h2,h3,QD _,QD _⟩
def aw(n)(hn:n<18446744073709551616):Zh prog 214 [u64 n] (Qo (num (n*65536))):=by
 refine Zy 0 Qh 200 func214 rfl ntmps214 results214 rfl λbase w hb=>?_;simp only[go_sem];refine Wj hb Al (AA n 65536 hn (by decide)) (Qo.flat rfl) λd h hR=>?_;obtain⟨rfl,rfl⟩:=hR;exact xY hb
def Hy{n:Int}(h1:0<=n)(h2:n<18446744073709551616):IntKind.u64.wrap n=((n.toNat:Nat):Int):=by rw[IntKind.wrap_u64];omega
def lG(l:Du)(h1:l.dl.Ok)(h2:l.rd.Ok)(h3:l.Jt<18446744073709551616)(head:Int)(hh:head<9223372036854775808):Zh prog 218 [.agg l.cells,Qb head] (Qo (.agg (AD l head).cells)):=by
 have b1:∀n:Nat,n<18446744073709551616->n*65536<2 ^ 128:=λn hn=>by omega
 by_cases h:0<head
 ·have d1:=Q7 h;have e1:=Hy (n:=head) (by omega) (by omega);rw[show AD l head=⟨l.has,l.dl,l.rd,l.Jt,qN l.rd (l.Jt*65536),qN l.dl (WY (l.Jt+head.toNat)*65536)⟩ from Qg h];refine Zy 0 Qh 200 func218 rfl ntmps218 results218 rfl λbase w hb=>?_;simp only[go_sem];simp only[go_sem,d1];apply QH hb [0,1,2,3,1004,1005,6,1007];simp only[go_sem];refine K9 hb UA (aw l.Jt h3) (Qo.flat rfl) λd h hR=>?_;obtain⟨rfl,rfl⟩:=hR;apply V6 hb;refine K9 hb UC (au l.rd h2 (l.Jt*65536) (b1 _ h3)) (Qo.flat rfl) λd h hR=>?_;obtain⟨rfl,rfl⟩:=hR;apply V6 hb;apply QH hb [0,1,2,3,4,5,6,1007,1008,9,1010];simp only[go_sem,e1,QfV];refine K9 hb UA (aw (WY (l.Jt+head.toNat)) (Hx _)) (Qo.flat rfl) λd h hR=>?_;obtain⟨rfl,rfl⟩:=hR;apply V6 hb;refine K9 hb UC (au l.dl h1 (WY (l.Jt+head.toNat)*65536) (b1 _ (Hx _))) (Qo.flat rfl) λd h hR=>?_;obtain⟨rfl,rfl⟩:=hR;exact LW hb
 ·have d1:=QQ h;rw[show AD l head=⟨l.has,l.dl,l.rd,l.Jt,never,never⟩ from Qd h];refine Zy 0 Qh 200 func218 rfl ntmps218 results218 rfl λbase w hb=>?_;simp only[go_sem];simp only[go_sem,d1];rfl
def ay(l:Du)(Ju head:Int):Du:=AD { l with Jt:=WY (l.Jt+Ju.toNat) } head
def Qu6(l:Du)(h1:l.dl.Ok)(h2:l.rd.Ok)(h3:l.Jt<18446744073709551616)(Ju head:Int)(XP:0<=Ju)(hs:Ju<9223372036854775808)(hh:head<9223372036854775808):Zh prog 228 [.agg l.cells,Qb Ju,Qb head] (Qo (.agg (ay l Ju head).cells)):=by
 have e0:max Ju 0=Ju:=by omega
 have e1:=Hy (n:=Ju) XP (by omega);refine Zy 0 Qh 200 func228 rfl ntmps228 results228 rfl λbase w hb=>?_;simp only[go_sem];simp only[go_sem,e0,e1,QfV];refine Wj hb fT (lG { l with Jt:=WY (l.Jt+Ju.toNat) } h1 h2 (Hx _) head hh) (Qo.flat rfl) λd h hR=>?_;obtain⟨rfl,rfl⟩:=hR;apply ZC hb;rfl
def Qu7(l:Du)(h1:l.dl.Ok)(h2:l.rd.Ok)(h3:l.Jt<18446744073709551616)(head:Int)(hh:head<9223372036854775808):Zh prog 230 [.agg l.cells,Qb head] (Qo (.agg (AD l head).cells)):=by
 refine Zy 0 Qh 200 func230 rfl ntmps230 results230 rfl λbase w hb=>?_;simp only[go_sem];refine Wj hb fT (lG l h1 h2 h3 head hh) (Qo.flat rfl) λd h hR=>?_;obtain⟨rfl,rfl⟩:=hR;exact xY hb
structure Qu where
 l:List Pk
 ci:Nat
 co:Nat
 cd:Nat
 bi:Nat
 bo:Nat
 bd:Nat
instance:Inhabited Qu:=⟨⟨[],0,0,0,0,0,0⟩⟩
def Xi:List Pk->Nat
 | []=>0
 | p::l=>p.len.toNat+Xi l
def Qu8(l m):Xi (l++m)=Xi l+Xi m:=by
 induction l with
 | nil=>simp[Xi]
 | cons p l ih=>simp only[XW,Xi,ih];omega
def Mh(p:Pk):Prop:=1<=p.len/\p.len<=16384
def QfW{l:List Pk}(h:∀p∈l,Mh p):Xi l<=16384*l.length:=by
 induction l with
 | nil=>simp[Xi]
 | cons p l ih=>
  have h1:=h p (by simp);have h2:=ih λq hq=>h q (by simp[hq]);unfold Mh at h1;simp only[Xi,Vu];omega
@[go_sem] def Qu.cts(q:Qu):List D:=[u64 q.ci,u64 q.co,u64 q.cd,u64 q.bi,u64 q.bo,u64 q.bd]
def jA(ZF room:Int)(q:Qu)(p:Pk):Bool:=decide (room<Xi q.l+p.len) || decide ((q.l.length:Int)=ZF)
def Xj(ZF room:Int)(q:Qu)(p:Pk):Qu:=
 if jA ZF room q p then { q with cd:=WY (q.cd+1),bd:=WY (q.bd+p.len.toNat) }
 else { q with l:=q.l++[p],ci:=WY (q.ci+1),bi:=WY (q.bi+p.len.toNat) }
def Wz(q:Qu):Qu:={ q with l:=q.l.tail,co:=WY (q.co+1),bo:=WY (q.bo+(q.l.headD default).len.toNat) }
def x9(q:Qu):Int:=match q.l with|[]=>0|p::_=>p.len
@[go_sem] def Mi(r:Nat)(room:Int)(q:Qu):Ob:=⟨.one,0,9,1,λ_=>[.ptr r 0 0 0,Qb room,Qb (Xi q.l:Nat),u64 q.ci,u64 q.co,u64 q.cd,u64 q.bi,u64 q.bo,u64 q.bd]⟩
structure lH (S:Nat->Prop) (h:List Ob) (p r ZF:Nat) (room:Int) (q:Qu):Prop where
 o:h[p]? = some (Mi r room q)
 ring:jx (λl=>S l/\l≠p) h r ZF q.l
 rp:r≠p
 sp:S p
 lens:∀x∈q.l,Mh x
 r0:0<=room
 r1:room<=1048576
def kg(S:Nat->Prop)(h:List Ob)(p ZF:Nat)(room:Int)(q:Qu):Prop:=∃r,lH S h p r ZF room q
def jx.step{S S'}{h h':List Ob}{r room}{L}(e:∀l,l<h.length->S l->S' l/\h'[l]? = h[l]?):jx S h r room L->jx S' h' r room L:=λ⟨a,f,row,T⟩=>
 ⟨a,f,row,((e _ (Qc T.o) T.sr).2).trans T.o,((e _ (Qc T.ao) T.sa).2).trans T.ao,T.ra,T.fl,T.len,T.wE,T.rows,T.lens,(e _ (Qc T.o) T.sr).1,(e _ (Qc T.ao) T.sa).1⟩
def jx.lI{S}{h}{r room}{L:List Pk}:jx S h r room L->L.length<=room/\room<=64:=λ⟨a,f,row,T⟩=>⟨T.len,T.wE⟩
def kg.step{S S'}{h h':List Ob}{p ZF}{room}{q}(e:∀l,l<h.length->S l->S' l/\h'[l]? = h[l]?):kg S h p ZF room q->kg S' h' p ZF room q:=λ⟨r,Q⟩=>
 ⟨r,((e _ (Qc Q.o) Q.sp).2).trans Q.o,Q.ring.step λl hl ⟨h1,h2⟩=>⟨⟨(e l hl h1).1,h2⟩,(e l hl h1).2⟩,Q.rp,(e _ (Qc Q.o) Q.sp).1,Q.lens,Q.r0,Q.r1⟩
structure Qu9 (h:List Ob) (p r ZF:Nat) (room:Int) (q:Qu):Prop where
 o:(h.map Ob.ro)[p]? = some (Mi r room q).ro
 ring:Pv h r ZF q.l
def Mj(h:List Ob)(p ZF:Nat)(room:Int)(q:Qu):Prop:=∃r,Qu9 h p r ZF room q
def kg.toR{S}{h}{p ZF}{room}{q}:kg S h p ZF room q->Mj h p ZF room q:=λ⟨r,Q⟩=>⟨r,ZM Q.o,Q.ring.toR⟩
def Mj.more{h h':List Ob}{p ZF}{room}{q}(e:∀(l:Nat) (o:Ob),(h.map Ob.ro)[l]? = some o->(h'.map Ob.ro)[l]? = some o):Mj h p ZF room q->Mj h' p ZF room q:=λ⟨r,Q⟩=>⟨r,e _ _ Q.o,Q.ring.more e⟩
section
variable {h:List Ob}{p ZF:Nat}{room:Int}{q:Qu}(Q:Mj h p ZF room q)
include Q
theorem Ml:Zg prog 94 h [.ptr p 0 0 0] (λd=>d=Qb q.l.length):=by
 obtain⟨r,ho,hr⟩:=Q;refine Zt Qh 200 func94 rfl ntmps94 results94 rfl λbase w pl F hF Za hb=>?_;rw[<- hF]at ho;have Qe:=Qc ho;simp only[go_sem,Qa,ho,Qe];obtain⟨a,f,row,T⟩:=hr;refine JJ hb QrE (Quz (T.more (KM hF))) λd hR=>?_;subst hR;refine Qf hb ?_;simp only[go_sem,Qa,ho,Qe];all_goals first|exact⟨_,rfl,rfl⟩|exact⟨_,rfl⟩|rfl|exact⟨[],(Zd _).symm⟩|exact⟨[],(Zd _).symm,rfl⟩
theorem QfX:Zg prog 229 h [.ptr p 0 0 0] (λd=>d=Qb (x9 q)):=by
 have Q0:=Q;obtain⟨r,ho,hr⟩:=Q;obtain⟨a,f,row,T⟩:=hr;unfold x9;cases hl:q.l with
 | nil=>
  refine Zt Qh 200 func229 rfl ntmps229 results229 rfl λbase w pl F hF Za hb=>?_;rw[<- hF]at ho;have Qe:=Qc ho;simp only[go_sem,Qa,ho,Qe];refine ZT hb Lz rfl ?_ (Ml (Q0.more (KM hF))) rfl λd hR=>?_
  ·simp only[go_sem,Qa,ho,Qe,hl]
  subst hR;refine Qf hb ?_;simp only[go_sem,Qa,ho,Qe,hl];all_goals first|exact⟨_,rfl,rfl⟩|exact⟨_,rfl⟩|rfl|exact⟨[],(Zd _).symm⟩|exact⟨[],(Zd _).symm,rfl⟩
 | cons x l=>
  have d0:(((l.length+1:Nat):Int)==0)=false:=by simp;omega
  refine Zt Qh 200 func229 rfl ntmps229 results229 rfl λbase w pl F hF Za hb=>?_;rw[<- hF]at ho;have Qe:=Qc ho;simp only[go_sem,Qa,ho,Qe];refine ZT hb Lz rfl ?_ (Ml (Q0.more (KM hF))) rfl λd hR=>?_
  ·simp only[go_sem,Qa,ho,Qe,hl,d0]
  subst hR;refine Qf hb ?_;simp only[go_sem,Qa,ho,Qe,hl,d0];refine ZT hb QdK rfl ?_ (Qfx (T.more (KM hF)) 0 (by rw[hl];simp)) rfl λd hR=>?_
  ·simp only[go_sem,Qa,ho,Qe,hl]
  subst hR;refine Qf hb ?_;simp only[go_sem,Qa,ho,Qe,hl];all_goals first|exact⟨_,rfl,rfl⟩|exact⟨_,rfl⟩|rfl|exact⟨[],(Zd _).symm⟩|exact⟨[],(Zd _).symm,rfl⟩
end
def Qva(h:List Ob)(n:Nat)(room:Int)(h1:1<=n)(h2:n<=64)(h3:1<=room)(h4:room<=1048576):MFn prog 134 h [Qb n,Qb room] (λd h'=>d=.tup [.ptr (h.length+2) 0 0 0,Qb 0]/\kg (λl=>h.length<=l) h' (h.length+2) n room ⟨[],0,0,0,0,0,0⟩/\∃g,h'=h++g/\g.length=3):=by
 have d1:decide (room<1)=false:=QQ (by omega);have d2:decide (1048576<room)=false:=QQ (by omega);refine QU Qh 200 func134 rfl ntmps134 results134 rfl λbase w pl hb=>?_;simp only[go_sem,Qa];refine KW hb QrN rfl ?_ (QuD h n h1 h2) rfl λd h hR=>?_
 ·simp only[go_sem,Qa,d1,d2]
 obtain⟨rfl,R,g,rfl,hg⟩:=hR;refine Qf hb ?_;simp only[go_sem,Qa,d1,d2];have hl:(h++g).length=h.length+2:=by rw[ZX,hg]
 refine⟨by rw[hg],⟨h.length+1,?_,?_,by omega,by show h.length<=_;omega,by simp,by omega,by omega⟩,g++[Mi (h.length+1) room ⟨[],0,0,0,0,0,0⟩],by rfl,by simp[hg]⟩
 ·rw[show h.length+2=(h++g).length by omega];rw[<- Wb,JT (QD _),Cd];rfl
 ·rw[<- Wb];refine R.step λl Zu JA=>⟨⟨JA,by omega⟩,Jy Zu⟩
def Hz(a b:Nat):IntKind.u64.wrap ((a:Int)+(b:Int))=((WY (a+b):Nat):Int):=Hf a b
def HA(a:Nat):IntKind.u64.wrap ((a:Int)+1)=((WY (a+1):Nat):Int):=Hf a 1
def lH.fin{S}{h H:List Ob}{p r ZF}{room}{q q':Qu}(Q:lH S h p r ZF room q)(hp:H[p]? = some (Mi r room q'))(hl:∀l,l<h.length->l≠p->H[l]? = h[l]?)(hn:h.length<=H.length)(e:q'.l=q.l):kg S H p ZF room q'/\Step S h H:=
 ⟨⟨r,hp,by rw[e];exact Q.ring.step λl h1 h2=>⟨h2,hl l h1 h2.2⟩,Q.rp,Q.sp,by rw[e];exact Q.lens,Q.r0,Q.r1⟩,⟨λl h1 h2=>hl l h1 λe2=>h2 (e2▸Q.sp),hn⟩⟩
def Qvb{S}{h}{p ZF}{room}{q}(Q:kg S h p ZF room q)(x)(hx:Mh x):
  MFn prog 137 h [.ptr p 0 0 0,.agg x.cells] (λd h'=>d=Qb (if jA ZF room q x then 30 else 0)/\kg S h' p ZF room (Xj ZF room q x)/\Step S h h'):=by
 obtain⟨r,Q⟩:=Q;have ho:=Q.o;have hR:=Q.ring;have VK:=hx.1;have Wr:=hx.2;have hle:=hR.lI;have qg:=QfW Q.lens;have Wp:=Q.r0;have Vm:=Q.r1;have d1:decide (x.len<1)=false:=QQ (by omega);have d2:decide (16384<x.len)=false:=QQ (by omega);have e1:IntKind.i64.wrap (room - (Xi q.l:Nat))=room - (Xi q.l:Nat):=wrap64 (by omega) (by omega);have e2:IntKind.u64.wrap x.len=((x.len.toNat:Nat):Int):=Hy (by omega) (by omega);by_cases J3:room<Xi q.l+x.len
 ·have d3:decide (room - (Xi q.l:Nat)<x.len)=true:=Q7 (by omega);have hf:jA ZF room q x=true:=by unfold jA;rw[Q7 J3];rfl
  unfold Xj;rw[hf];refine QU Qh 200 func137 rfl ntmps137 results137 rfl λbase w pl hb=>?_;have Qe:=Qc ho;simp only[go_sem,Qa,ho,Qe,d1,d2];apply QH hb [0,1,2,3,4,5,6,7,8,9,10,11,12,13,14,15,16,17,1018,19,20,21];simp only[go_sem,Qa,ho,Qe,e1,d3,HA];apply QH hb [0,1,2,3,4,5,6,7,8,9,10,11,1012];simp only[go_sem,Qa,ho,Qe,e2,Qv Qe,Hz];refine Q.fin (q':={ q with cd:=WY (q.cd+1),bd:=WY (q.bd+x.len.toNat) }) ?_ ?_ ?_ rfl
  ·rw[QC (by simpa using Qe),Qv Qe];rfl
  ·intro l h1 h2;rw[QC (by simpa using h1),Qi (Q3 h2)]
  ·simp
 ·have d3:decide (room - (Xi q.l:Nat)<x.len)=false:=QQ (by omega);refine QU Qh 200 func137 rfl ntmps137 results137 rfl λbase w pl hb=>?_;have Qe:=Qc ho;simp only[go_sem,Qa,ho,Qe,d1,d2];apply KL [18] hb [0,1,2,3,4,5,6,7,8,9,10,11,12,13,14,15,16,17,1018,19,20,21] [];simp only[go_sem,Qa,ho,Qe,e1,d3];have az:=hR.step (S':=λl=>S l/\l≠p/\l<h.length) (h':=h++[⟨.one,0,6,1,λ_=>x.cells⟩]) λl h1 h2=>⟨⟨h2.1,h2.2,h1⟩,QC h1⟩;refine xH1 hb QrO (QuA az x) λd h6 lJ=>?_;obtain⟨rfl,R6,s6⟩:=lJ;have AF:h.length<h6.length:=by have:=s6.len;simp only[ZX,zV]at this;omega
  have jB:h6[p]? = some (Mi r room q):=(s6.keep p (by simp;omega) (λh=>h.2.1 rfl)).trans ((QC Qe).trans ho);have YC:=Qc jB;have wH:=(s6.keep h.length (by simp) (λh=>by have:=h.2.2;omega)).trans (Ko rfl);have keep:∀l,l<h.length->¬ S l->h6[l]? = h[l]? := λl h1 h2=>(s6.keep l (by simp;omega) (λh=>h2 h.1)).trans (QC h1);have Mm:p≠h.length:=by omega
  refine Zb hb ?_;by_cases hlen:q.l.length=ZF
  ·have hf:jA ZF room q x=true:=by unfold jA;rw[Q7 (show (q.l.length:Int)=(ZF:Int) by omega)];simp
   rw[Qg hlen]at R6;simp only[go_sem,Qa,Qg hlen,jB,YC,wH,HA];apply QH hb [0,1,2,3,4,5,6,7,8,9,10,11,1012];simp only[go_sem,Qa,jB,YC,e2,Qv YC,Hz,wH,AF,Qi Mm];unfold Xj;rw[hf];refine⟨by rfl,⟨r,?_,R6.step λl h1 h2=>⟨⟨h2.1,h2.2.1⟩,?_⟩,Q.rp,Q.sp,Q.lens,Q.r0,Q.r1⟩,⟨λl h1 h2=>?_,?_⟩⟩
   ·rw[Qv YC];rfl
   ·rw[Qi (Q3 h2.2.1)]
   ·rw[Qi (λ(e:p=l)=>h2 (e▸Q.sp))];exact keep l h1 h2
   ·simp;omega
  ·have hf:jA ZF room q x=false:=by unfold jA;rw[QQ J3,QQ (show ¬ (q.l.length:Int)=(ZF:Int) by omega)];rfl
   have e4:IntKind.i64.wrap (((Xi q.l:Nat):Int)+x.len)=((Xi (q.l++[x]):Nat):Int):=by
    rw[Qu8];simp only[Xi];rw[wrap64 (by omega) (by omega)];omega
   rw[Qd hlen]at R6;simp only[go_sem,Qa,Qd hlen,jB,YC,wH,HA];apply QH hb [0,1,2,3,4,5,6,7,8,1009];simp only[go_sem,Qa,jB,YC,e2,Qv YC,Hz,HA,wH,AF,Qi Mm,e4];apply QH hb [0,1,2,3,4,5,6,7,8,9,10,11,1012];simp only[go_sem,Qa,jB,YC,e2,Qv YC,Hz,HA,wH,AF,Qi Mm,e4];unfold Xj;rw[hf];refine⟨by rfl,⟨r,?_,R6.step λl h1 h2=>⟨⟨h2.1,h2.2.1⟩,?_⟩,Q.rp,Q.sp,?_,Q.r0,Q.r1⟩,⟨λl h1 h2=>?_,?_⟩⟩
   ·rw[Qv YC];rfl
   ·rw[Qi (Q3 h2.2.1)]
   ·intro y hy;rcases QT.1 hy with hy|hy
    ·exact Q.lens y hy
    ·rw[qA.1 hy];exact hx
   ·rw[Qi (λ(e:p=l)=>h2 (e▸Q.sp))];exact keep l h1 h2
   ·simp;omega
def Qvc{S}{h}{p ZF}{room}{q:Qu}{x}{L}(Q:kg S h p ZF room q)(hq:q.l=x::L):
  MFn prog 174 h [.ptr p 0 0 0] (λd h'=>d=.tup [.agg x.cells,Qb 0]/\kg S h' p ZF room (Wz q)/\Step S h h'):=by
 obtain⟨r,Q⟩:=Q;have ho:=Q.o;have hR:=Q.ring;have hx:=Q.lens x (by rw[hq];simp);have VK:=hx.1;have Wr:=hx.2;have hle:=hR.lI;have qg:=QfW Q.lens;have e2:IntKind.u64.wrap x.len=((x.len.toNat:Nat):Int):=Hy (by omega) (by omega);have e4:IntKind.i64.wrap (((Xi q.l:Nat):Int) - x.len)=((Xi L:Nat):Int):=by
  have e5:Xi q.l=x.len.toNat+Xi L:=by rw[hq];rfl
  rw[wrap64 (by omega) (by omega)];omega
 refine QU Qh 200 func174 rfl ntmps174 results174 rfl λbase w pl hb=>?_;have Qe:=Qc ho;simp only[go_sem,Qa,ho,Qe];have az:=hR.step (S':=λl=>S l/\l≠p/\l<h.length) (h':=h++[⟨.one,0,6,1,λ_=>(default:Pk).cells⟩]) λl h1 h2=>⟨⟨h2.1,h2.2,h1⟩,QC h1⟩;rw[hq]at az;refine BD hb Qsb (QuB az) λd h6 lJ=>?_;obtain⟨rfl,R6,s6⟩:=lJ;have AF:h.length<h6.length:=by have:=s6.len;simp only[ZX,zV]at this;omega
 have jB:h6[p]? = some (Mi r room q):=(s6.keep p (by simp;omega) (λh=>h.2.1 rfl)).trans ((QC Qe).trans ho);have YC:=Qc jB;have wH:=(s6.keep h.length (by simp) (λh=>by have:=h.2.2;omega)).trans (Ko rfl);have keep:∀l,l<h.length->¬ S l->h6[l]? = h[l]? := λl h1 h2=>(s6.keep l (by simp;omega) (λh=>h2 h.1)).trans (QC h1);have Mm:p≠h.length:=by omega
 refine Qf hb ?_;simp only[go_sem,Qa,jB,YC,wH];apply QH hb [0,1,2,3,4,5,6,7,8,1009];simp only[go_sem,Qa,jB,YC,e2,Qv YC,Hz,HA,wH,AF,Qi Mm,e4];apply QH hb [0,1,2,3,4,5,6,7,8,9,10,11,1012];simp only[go_sem,Qa,jB,YC,e2,Qv,Hz,HA,wH,AF,Qi Mm,e4];have key:∀(A B C:Ob) (l:Nat),l<h.length->(((h6.set p A).set h.length B)++[C])[l]? = (h6.set p A)[l]? := λA B C l h1=>by
  rw[QC (by simp;omega),Qi (by omega)]
 have eq:(Wz q).l=L:=by simp[Wz,hq]
 refine⟨⟨r,?_,?_,Q.rp,Q.sp,?_,Q.r0,Q.r1⟩,⟨λl h1 h2=>?_,?_⟩⟩
 ·rw[key _ _ _ _ Qe,Qv YC,Wz,hq];rfl
 ·rw[eq];refine R6.step λl h1 h2=>⟨⟨h2.1,h2.2.1⟩,?_⟩;rw[key _ _ _ _ h2.2.2,Qi (Q3 h2.2.1)]
 ·intro y hy;rw[eq]at hy;exact Q.lens y (by rw[hq];simp[hy])
 ·rw[key _ _ _ _ h1,Qi (λ(e:p=l)=>h2 (e▸Q.sp))];exact keep l h1 h2
 ·simp;omega
def ya(l:Du)(vE new:Rn):Rn:=if l.has then qh vE new else new
def aA{l}{vE new:Rn}(h1:vE.Ok)(h2:new.Ok):(ya l vE new).Ok:=by unfold ya;split;exact lD h1 h2;exact h2
def zz(l:Du)(c:Nc)(now:Nat)(head:Int):Du:=
 AD ⟨true,ya l l.dl (VF c now (l.Jt*65536)),ya l l.rd (vD c now (l.Jt*65536)),l.Jt,l.Xx,l.dead⟩ head
section
variable {h:List Ob}{b1 b2 b3:Nat}(l:Du)(h3:l.Jt<18446744073709551616)(c:Nc)(hc:c.Lt)(now:Nat)(hn:now<18446744073709551616)
 (o1:(h.map Ob.ro)[b1]? = some ⟨.Wd,0,3,1,λ_=>c.cells⟩) (o2:(h.map Ob.ro)[b2]? = some ⟨.Wd,0,1,1,λ_=>[u64 now]⟩) (o3:(h.map Ob.ro)[b3]? = some ⟨.Wd,0,22,1,λ_=>l.cells⟩)
include h3 hc hn o1 o2 o3
theorem Qvd(vE:Rn)(hw:vE.Ok):Zg prog 213 h [.agg vE.cells,.raw (.func (.func 216) #[] #[]),.ptr b1 0 0 0,.ptr b2 0 0 0,.ptr b3 0 0 0] (λd=>d=.agg (ya l vE (VF c now (l.Jt*65536))).cells):=by
 have hs:=Hw hc hn (y:=l.Jt*65536) (by omega);refine Zt Qh 200 func213 rfl ntmps213 results213 rfl λbase w pl F hF Za hb=>?_;rw[<- hF]at o1 o2 o3;have zA:=Qc o1;have zB:=Qc o2;have zC:=Qc o3;simp only[go_sem,Qa,o1,zA,o2,zB,o3,zC];apply QH hb [0,1,2,3,4,1005,1006,1007,1008];simp only[go_sem,Qa,o1,zA,o2,zB,o3,zC];refine KB hb UA rfl ?_ (aw l.Jt h3) (Qo.flat rfl) rfl λd h hR=>?_
 ·simp only[go_sem,Qa,o1,zA,o2,zB,o3,zC]
 obtain⟨rfl,rfl⟩:=hR;refine Zb hb ?_;simp only[go_sem,Qa,o1,zA,o2,zB,o3,zC];refine KB hb fS rfl ?_ (QmH c hc now (l.Jt*65536) hn (by omega)) (Qo.flat rfl) rfl λd h hR=>?_
 ·simp only[go_sem,Qa,o1,zA,o2,zB,o3,zC]
 obtain⟨rfl,rfl⟩:=hR;refine Zb hb ?_;simp only[go_sem,Qa,o1,zA,o2,zB,o3,zC];unfold ya;cases hh:l.has with
 | true=>
  simp only[go_sem,Qa,hh];refine ZA hb UB rfl ?_ (ar vE _ hw hs) (Qo.flat rfl) rfl λd h hR=>?_
  ·simp only[go_sem,Qa,o1,zA,o2,zB,o3,zC]
  obtain⟨rfl,rfl⟩:=hR;refine Qf hb ?_;simp only[go_sem,Qa,o1,zA,o2,zB,o3,zC];all_goals first|exact⟨_,rfl,rfl⟩|exact⟨_,rfl⟩|rfl|exact⟨[],(Zd _).symm⟩|exact⟨[],(Zd _).symm,rfl⟩
 | false=>
  simp only[go_sem,Qa,hh];all_goals first|exact⟨_,rfl,rfl⟩|exact⟨_,rfl⟩|rfl|exact⟨[],(Zd _).symm⟩|exact⟨[],(Zd _).symm,rfl⟩
theorem Qve(vE:Rn)(hw:vE.Ok):Zg prog 213 h [.agg vE.cells,.raw (.func (.func 217) #[] #[]),.ptr b1 0 0 0,.ptr b2 0 0 0,.ptr b3 0 0 0] (λd=>d=.agg (ya l vE (vD c now (l.Jt*65536))).cells):=by
 have hs:=aq hc hn (y:=l.Jt*65536) (by omega);refine Zt Qh 200 func213 rfl ntmps213 results213 rfl λbase w pl F hF Za hb=>?_;rw[<- hF]at o1 o2 o3;have zA:=Qc o1;have zB:=Qc o2;have zC:=Qc o3;simp only[go_sem,Qa,o1,zA,o2,zB,o3,zC];apply QH hb [0,1,2,3,4,1005,1006,1007,1008];simp only[go_sem,Qa,o1,zA,o2,zB,o3,zC];refine KB hb UA rfl ?_ (aw l.Jt h3) (Qo.flat rfl) rfl λd h hR=>?_
 ·simp only[go_sem,Qa,o1,zA,o2,zB,o3,zC]
 obtain⟨rfl,rfl⟩:=hR;refine Zb hb ?_;simp only[go_sem,Qa,o1,zA,o2,zB,o3,zC];refine KB hb QdW rfl ?_ (QfU c hc now (l.Jt*65536) hn (by omega)) (Qo.flat rfl) rfl λd h hR=>?_
 ·simp only[go_sem,Qa,o1,zA,o2,zB,o3,zC]
 obtain⟨rfl,rfl⟩:=hR;refine Zb hb ?_;simp only[go_sem,Qa,o1,zA,o2,zB,o3,zC];unfold ya;cases hh:l.has with
 | true=>
  simp only[go_sem,Qa,hh];refine ZA hb UB rfl ?_ (ar vE _ hw hs) (Qo.flat rfl) rfl λd h hR=>?_
  ·simp only[go_sem,Qa,o1,zA,o2,zB,o3,zC]
  obtain⟨rfl,rfl⟩:=hR;refine Qf hb ?_;simp only[go_sem,Qa,o1,zA,o2,zB,o3,zC];all_goals first|exact⟨_,rfl,rfl⟩|exact⟨_,rfl⟩|rfl|exact⟨[],(Zd _).symm⟩|exact⟨[],(Zd _).symm,rfl⟩
 | false=>
  simp only[go_sem,Qa,hh];all_goals first|exact⟨_,rfl,rfl⟩|exact⟨_,rfl⟩|rfl|exact⟨[],(Zd _).symm⟩|exact⟨[],(Zd _).symm,rfl⟩
end
def Qvf(l:Du)(hl:l.Ok)(c:Nc)(hc:c.Lt)(now)(hn:now<18446744073709551616)(head:Int)(hh:head<9223372036854775808):Zh prog 167 [.agg l.cells,BG c,u64 now,Qb head] (Qo (.agg (zz l c now head).cells)):=by
 have h3:=hl.Jt;have hs:=Hw hc hn (y:=l.Jt*65536) (by omega);have hr:=aq hc hn (y:=l.Jt*65536) (by omega);refine Zy 0 Qh 200 func167 rfl ntmps167 results167 rfl λbase w hb=>?_;simp only[go_sem];apply QH hb [0,1,2,4,5,6,1003,8,1007,1009,10,1011];simp only[go_sem];refine XO hb QdV (Qvd (b1:=1) (b2:=2) (b3:=0) l h3 c hc now hn rfl rfl rfl l.dl hl.dl) λd hR=>?_;subst hR;apply XN hb;refine XO hb QdV (Qve (b1:=1) (b2:=2) (b3:=0) l h3 c hc now hn rfl rfl rfl l.rd hl.rd) λd hR=>?_;subst hR;apply XN hb;refine Wj hb fT (lG ⟨true,ya l l.dl (VF c now (l.Jt*65536)),ya l l.rd (vD c now (l.Jt*65536)),l.Jt,l.Xx,l.dead⟩ (aA hl.dl hs) (aA hl.rd hr) h3 head hh) (Qo.flat rfl) λd h hR=>?_;obtain⟨rfl,rfl⟩:=hR;apply ZC hb;rfl
def lK{l:Du}(hl:l.Ok){c:Nc}(hc:c.Lt){now}(hn:now<18446744073709551616)(head:Int):(zz l c now head).Ok:=by
 have h3:=hl.Jt;exact lF (l:=⟨true,ya l l.dl (VF c now (l.Jt*65536)),ya l l.rd (vD c now (l.Jt*65536)),l.Jt,l.Xx,l.dead⟩) (aA hl.dl (Hw hc hn (y:=l.Jt*65536) (by omega))) (aA hl.rd (aq hc hn (y:=l.Jt*65536) (by omega))) h3 head
structure Sh where
 has:Bool
 run:Rn
 time:Nat
deriving DecidableEq
instance:Inhabited Sh:=⟨⟨false,default,0⟩⟩
structure Sh.Ok (x:Sh):Prop where
 run:x.run.Ok
 time:x.time<18446744073709551616
@[go_sem] def Sh.cells(x:Sh):List D:=[QY x.has,u64 x.run.f.x,u64 (x.run.f.y / 18446744073709551616),u64 (x.run.f.y % 18446744073709551616),u64 x.run.f.m,u64 x.run.t.x,u64 (x.run.t.y / 18446744073709551616),u64 (x.run.t.y % 18446744073709551616),u64 x.run.t.m,QY x.run.b,u64 x.time]
def Ds(r:Rn)(total:Nat):Nat:=if r.b then max (max (qN r (total*65536)) r.t.x) r.f.x else max (qN r (total*65536)) r.t.x
def QfY{r:Rn}(h:r.Ok)(total):Ds r total<18446744073709551616:=by
 have h1:=PA r (total*65536);have h2:=h.t.x;have h3:=h.f.x;unfold never at h1;unfold Ds;split<;>omega
def Mn(a b:Nat):max (a:Int) (b:Int)=((max a b:Nat):Int):=by omega
def PB(a:Nat):max (0:Int) (a:Int)=(a:Int):=by omega
def Qvg{h:List Ob}{b g}{row}(o:(h.map Ob.ro)[b]? = some ⟨.xm,g,1,2,row⟩)(x y)(e0:row 0=[u64 x])(e1:row 1=[u64 y]):Zg prog 261 h [.ref b g 0 2] (λd=>d=u64 (max x y)):=by
 refine Zt Qh 200 func261 rfl ntmps261 results261 rfl λbase w pl F hF Za hb=>?_;rw[<- hF]at o;have BI:=Qc o;simp only[go_sem,Qa,o,BI];refine vv 2 ?_;refine Qf hb ?_;simp only[go_sem,Qa,o,BI,e0,e1];refine Qf hb ?_;simp only[go_sem,Qa,o,BI,e0,e1,PB,Mn];refine Qf hb ?_;simp only[go_sem,Qa,o,BI,e0,e1,PB,Mn];apply Q1 hb;all_goals first|exact⟨_,rfl,rfl⟩|exact⟨_,rfl⟩|rfl|exact⟨[],(Zd _).symm⟩|exact⟨[],(Zd _).symm,rfl⟩
def Qvh{h:List Ob}{b g}{row}(o:(h.map Ob.ro)[b]? = some ⟨.xm,g,1,3,row⟩)(x y z)(e0:row 0=[u64 x])(e1:row 1=[u64 y])(e2:row 2=[u64 z]):Zg prog 261 h [.ref b g 0 3] (λd=>d=u64 (max (max x y) z)):=by
 refine Zt Qh 200 func261 rfl ntmps261 results261 rfl λbase w pl F hF Za hb=>?_;rw[<- hF]at o;have BI:=Qc o;simp only[go_sem,Qa,o,BI];refine vv 3 ?_;refine Qf hb ?_;simp only[go_sem,Qa,o,BI,e0,e1,e2];refine Qf hb ?_;simp only[go_sem,Qa,o,BI,e0,e1,e2,PB,Mn];refine Qf hb ?_;simp only[go_sem,Qa,o,BI,e0,e1,e2,PB,Mn];refine Qf hb ?_;simp only[go_sem,Qa,o,BI,e0,e1,e2,PB,Mn];apply Q1 hb;all_goals first|exact⟨_,rfl,rfl⟩|exact⟨_,rfl⟩|rfl|exact⟨[],(Zd _).symm⟩|exact⟨[],(Zd _).symm,rfl⟩
def lL(r:Rn)(hr:r.Ok)(total)(ht:total<18446744073709551616):Zh prog 222 [.agg r.cells,u64 total] (Qo (u64 (Ds r total))):=by
 unfold Ds;refine Zy 0 Qh 200 func222 rfl ntmps222 results222 rfl λbase w hb=>?_;simp only[go_sem];apply QH hb [0,1,1002,1003,4];simp only[go_sem];refine K9 hb Al (AA total 65536 ht (by decide)) (Qo.flat rfl) λd h hR=>?_;obtain⟨rfl,rfl⟩:=hR;apply V6 hb;refine K9 hb UC (au r hr (total*65536) (by omega)) (Qo.flat rfl) λd h hR=>?_;obtain⟨rfl,rfl⟩:=hR;apply V6 hb;cases h:r.b with
 | true=>
  simp only[go_sem,h];refine JJ hb Qd5 (Qvh (b:=1) (g:=0) (by exact rfl) (qN r (total*65536)) r.t.x r.f.x (by exact rfl) (by exact rfl) (by exact rfl)) λd hR=>?_;subst hR;exact LV hb
 | false=>
  simp only[go_sem,h];refine JJ hb Qd5 (Qvg (b:=1) (g:=0) (by exact rfl) (qN r (total*65536)) r.t.x (by exact rfl) (by exact rfl)) λd hR=>?_;subst hR;exact LV hb
def HB(x:Sh)(c:Nc)(low total:Nat):Sh:=
 ⟨true,if x.has then qh x.run (VF c low (total*65536)) else VF c low (total*65536),Ds (if x.has then qh x.run (VF c low (total*65536)) else VF c low (total*65536)) total⟩
def FA(x:Sh)(total:Nat):Sh:=if x.has then ⟨true,x.run,Ds x.run total⟩ else x
def lM{x:Sh}(hx:x.Ok){c:Nc}(hc:c.Lt){low total}(hl:low<18446744073709551616)(ht:total<18446744073709551616):(if x.has then qh x.run (VF c low (total*65536)) else VF c low (total*65536)).Ok:=by
 have h1:=Hw hc hl (y:=total*65536) (by omega);split
 ·exact lD hx.run h1
 ·exact h1
def Qvi{x:Sh}(hx:x.Ok){c:Nc}(hc:c.Lt){low total:Nat}(hl:low<18446744073709551616)(ht:total<18446744073709551616):(HB x c low total).Ok:=
 ⟨lM hx hc hl ht,QfY (lM hx hc hl ht) _⟩
def Qvj{x:Sh}(hx:x.Ok)(total:Nat):(FA x total).Ok:=by
 unfold FA;split
 ·exact⟨hx.run,QfY hx.run _⟩
 ·exact hx
def Qvk(x:Sh)(hx:x.Ok)(c:Nc)(hc:c.Lt)(low total:Nat)(hl:low<18446744073709551616)(ht:total<18446744073709551616):Zh prog 170 [.agg x.cells,BG c,u64 low,u64 total] (Qo (.agg (HB x c low total).cells)):=by
 have h1:=Hw hc hl (y:=total*65536) (by omega);have h2:=lM hx hc hl ht;refine Zy 0 Qh 200 func170 rfl ntmps170 results170 rfl λbase w hb=>?_;simp only[go_sem];apply QH hb [0,1,2,1003,1004,1005,1006];simp only[go_sem];refine K9 hb Al (AA total 65536 ht (by decide)) (Qo.flat rfl) λd h hR=>?_;obtain⟨rfl,rfl⟩:=hR;apply V6 hb;refine K9 hb fS (QmH c hc low (total*65536) hl (by omega)) (Qo.flat rfl) λd h hR=>?_;obtain⟨rfl,rfl⟩:=hR;apply V6 hb;cases h:x.has with
 | true=>
  rw[h,Qg rfl]at h2;rw[show HB x c low total=⟨true,qh x.run (VF c low (total*65536)),Ds (qh x.run (VF c low (total*65536))) total⟩ from by unfold HB;rw[h];rfl];simp only[go_sem,h];refine Wj hb UB (ar x.run _ hx.run h1) (Qo.flat rfl) λd h hR=>?_;obtain⟨rfl,rfl⟩:=hR;apply ZC hb;apply QH hb [0,1,2,1003,4,1005];simp only[go_sem];refine K9 hb fV (lL (qh x.run (VF c low (total*65536))) h2 total ht) (Qo.flat rfl) λd h hR=>?_;obtain⟨rfl,rfl⟩:=hR;exact LW hb
 | false=>
  rw[show HB x c low total=⟨true,VF c low (total*65536),Ds (VF c low (total*65536)) total⟩ from by unfold HB;rw[h];rfl];simp only[go_sem,h];apply QH hb [0,1,2,1003,4,1005];simp only[go_sem];refine K9 hb fV (lL (VF c low (total*65536)) h1 total ht) (Qo.flat rfl) λd h hR=>?_;obtain⟨rfl,rfl⟩:=hR;exact LW hb
def Qvl(x:Sh)(hx:x.Ok)(total:Nat)(ht:total<18446744073709551616):Zh prog 175 [.agg x.cells,u64 total] (Qo (.agg (FA x total).cells)):=by
 cases h:x.has with
 | true=>
  rw[show FA x total=⟨true,x.run,Ds x.run total⟩ from by unfold FA;rw[h];rfl];refine Zy 0 Qh 200 func175 rfl ntmps175 results175 rfl λbase w hb=>?_;simp only[go_sem];simp only[go_sem,h];refine Wj hb fV (lL x.run hx.run total ht) (Qo.flat rfl) λd h hR=>?_;obtain⟨rfl,rfl⟩:=hR;exact xY hb
 | false=>
  rw[show FA x total=x from by unfold FA;rw[h];rfl];refine Zy 0 Qh 200 func175 rfl ntmps175 results175 rfl λbase w hb=>?_;simp only[go_sem];simp only[go_sem,h]
structure Cp where
 has:Bool
 run:Rn
 fit:Nat
deriving DecidableEq
instance:Inhabited Cp:=⟨⟨false,default,0⟩⟩
structure Cp.Ok (x:Cp):Prop where
 run:x.run.Ok
 fit:x.fit<=never
@[go_sem] def Cp.cells(x:Cp):List D:=[QY x.has,u64 x.run.f.x,u64 (x.run.f.y / 18446744073709551616),u64 (x.run.f.y % 18446744073709551616),u64 x.run.f.m,u64 x.run.t.x,u64 (x.run.t.y / 18446744073709551616),u64 (x.run.t.y % 18446744073709551616),u64 x.run.t.m,QY x.run.b,u64 x.fit]
def lN:Cp:=⟨false,⟨⟨0,0,0⟩,⟨0,0,0⟩,false⟩,0⟩
def BJ(x:Cp)(total:Nat):Cp:=if x.has then ⟨true,x.run,qN x.run (total*65536)⟩ else x
def Dt(x:Cp)(c:Nc)(now total:Nat):Cp:=
 if c.of=0\/c.of=1 then lN
 else ⟨true,if x.has then qh x.run (VF c now (total*65536)) else VF c now (total*65536),qN (if x.has then qh x.run (VF c now (total*65536)) else VF c now (total*65536)) (total*65536)⟩
def Qvm:lN.Ok:=⟨⟨Ln.jz,Ln.jz⟩,JQ _⟩
def Qvn{x:Cp}(hx:x.Ok)(total:Nat):(BJ x total).Ok:=by
 unfold BJ;split
 ·exact⟨hx.run,PA _ _⟩
 ·exact hx
def QfZ{x:Cp}(hx:x.Ok){c:Nc}(hc:c.Lt){low total}(hl:low<18446744073709551616)(ht:total<18446744073709551616):(if x.has then qh x.run (VF c low (total*65536)) else VF c low (total*65536)).Ok:=by
 have h1:=Hw hc hl (y:=total*65536) (by omega);split
 ·exact lD hx.run h1
 ·exact h1
def Qvo{x:Cp}(hx:x.Ok){c:Nc}(hc:c.Lt){now total:Nat}(hl:now<18446744073709551616)(ht:total<18446744073709551616):(Dt x c now total).Ok:=by
 unfold Dt;split
 ·exact Qvm
 ·exact⟨QfZ hx hc hl ht,PA _ _⟩
def lO(x:Cp)(hx:x.Ok)(total:Nat)(ht:total<18446744073709551616):Zh prog 176 [.agg x.cells,u64 total] (Qo (.agg (BJ x total).cells)):=by
 cases h:x.has with
 | true=>
  rw[show BJ x total=⟨true,x.run,qN x.run (total*65536)⟩ from by unfold BJ;rw[h];rfl];refine Zy 0 Qh 200 func176 rfl ntmps176 results176 rfl λbase w hb=>?_;simp only[go_sem];simp only[go_sem,h];apply QH hb [0,1,2,1003,1004,5,1006];simp only[go_sem];refine K9 hb Al (AA total 65536 ht (by decide)) (Qo.flat rfl) λd h hR=>?_;obtain⟨rfl,rfl⟩:=hR;apply V6 hb;refine K9 hb UC (au x.run hx.run (total*65536) (by omega)) (Qo.flat rfl) λd h hR=>?_;obtain⟨rfl,rfl⟩:=hR;exact LW hb
 | false=>
  rw[show BJ x total=x from by unfold BJ;rw[h];rfl];refine Zy 0 Qh 200 func176 rfl ntmps176 results176 rfl λbase w hb=>?_;simp only[go_sem];simp only[go_sem,h]
def Qvp(x:Cp)(hx:x.Ok)(c:Nc)(hc:c.Lt)(now total:Nat)(hl:now<18446744073709551616)(ht:total<18446744073709551616):Zh prog 171 [.agg x.cells,BG c,u64 now,u64 total] (Qo (.agg (Dt x c now total).cells)):=by
 have h1:=Hw hc hl (y:=total*65536) (by omega);have h2:=QfZ hx hc hl ht;refine Zy 0 Qh 200 func171 rfl ntmps171 results171 rfl λbase w hb=>?_;simp only[go_sem];apply QH hb [0,1,2,1003,1004,1005,1006];simp only[go_sem];refine K9 hb Al (AA total 65536 ht (by decide)) (Qo.flat rfl) λd h hR=>?_;obtain⟨rfl,rfl⟩:=hR;apply V6 hb;refine K9 hb fS (QmH c hc now (total*65536) hl (by omega)) (Qo.flat rfl) λd h hR=>?_;obtain⟨rfl,rfl⟩:=hR;apply V6 hb;refine Wj hb CO (Pz c.a c.d c.b) (Qo.flat rfl) λd h hR=>?_;obtain⟨rfl,rfl⟩:=hR;apply ZC hb;by_cases e:c.of=0\/c.of=1
 ·rw[show Dt x c now total=lN from Qg e];have e':Ve c.a c.d c.b=0\/Ve c.a c.d c.b=1:=e;rcases e' with e'|e'
  ·simp only[go_sem,e'];rfl
  ·simp only[go_sem,e'];rfl
 ·have d0:(Ve c.a c.d c.b==0)=false:=by rw[zX];exact λh=>e (.inl h)
  have d1:(Ve c.a c.d c.b==1)=false:=by rw[zX];exact λh=>e (.inr h)
  cases h:x.has with
  | true=>
   rw[h,Qg rfl]at h2;rw[show Dt x c now total=BJ ⟨true,qh x.run (VF c now (total*65536)),0⟩ total from by unfold Dt;rw[Qd e,h];rfl];simp only[go_sem,d0,d1,h];refine Wj hb UB (ar x.run _ hx.run h1) (Qo.flat rfl) λd h hR=>?_;obtain⟨rfl,rfl⟩:=hR;apply ZC hb;refine Wj hb fO (lO ⟨true,qh x.run (VF c now (total*65536)),0⟩ ⟨h2,JQ _⟩ total ht) (Qo.flat rfl) λd h hR=>?_;obtain⟨rfl,rfl⟩:=hR;exact xY hb
  | false=>
   rw[show Dt x c now total=BJ ⟨true,VF c now (total*65536),0⟩ total from by unfold Dt;rw[Qd e,h];rfl];simp only[go_sem,d0,d1,h];refine Wj hb fO (lO ⟨true,VF c now (total*65536),0⟩ ⟨h1,JQ _⟩ total ht) (Qo.flat rfl) λd h hR=>?_;obtain⟨rfl,rfl⟩:=hR;exact xY hb
def Qvq(a b):Zh prog 147 [u64 a,u64 b] (Qo (u64 (max a b))):=by
 refine Zy 0 Qh 200 func147 rfl ntmps147 results147 rfl λbase w hb=>?_;simp only[go_sem];simp only[go_sem,Mn]
def lP:Go.Shelf.Ren:=⟨fun|5=>150|7=>185|n=>n,fun|23=>209|25=>3|3=>56|4=>4|20=>20|n=>n,fun|n=>n⟩
def Qvr:SlLaysW.n5 prog lP:={
 mixed:=by kernel_rfl
 f5:=⟨f150.name,by kernel_rfl,func150.trans (congrArg some (show f150={ SlBodyW.n5 lP with name:=f150.name } by kernel_rfl))⟩
 f7:=func185.trans (congrArg some (show f185=SlBodyW.n7 lP by kernel_rfl))
 t4:=underlying4
 a4:=isAgg4
 z4:=sizeOf4
 v4:=zeroValue4
 t20:=underlying20
 a20:=isAgg20
 z20:=sizeOf20
 v20:=zeroValue20
 t23:=underlying209
 a23:=isAgg209
 z23:=sizeOf209
 v23:=zeroValue209 }
def Qvs{h:List Ob}{m c}{es}(hm:h[m]? = some (QM .i64 c es)):MFn prog 150 h [.mref m 0] (λd h'=>d=.mref h.length 0/\h'=h++[QM .i64 c es]):=by
 intro Z base w pl vs QX hZ R jY hv;match vs,jY with
 | [v],_=>
 obtain⟨o,p,b,h1,h2,h3,h4,h5⟩:=El (hv 0 (by simp));rw[hm]at h1;cases h1;have hp:=h5 rfl;subst hp;have Es:v=.map (some b):=h3.2;subst Es;obtain⟨_,vZ⟩:=R.at_ m _ b 0 hm h2;obtain⟨lQ,Je,PC,clock,hb,hn,JR,Z6,Mp,HC⟩:=vZ.map rfl;refine(AnyW.maps_Clone Qvr b PC clock w hb).mono ?_;rintro e w' ⟨rfl,rfl⟩;have e:∀b,b<w.heap.size->(w.alloc (.map PC clock)).heap[b]? = w.heap[b]? := λb hb=>kR w _ b hb;have T:Go.Fg.Tr h pl w (h++[QM .i64 c es]) (pl++[some (w.heap.size,0)]) (w.alloc (.map PC clock)):=Go.Fg.Tr.push R e _ _ (by intro b q h;simp at h;omega);have Zf:pl.length=h.length:=R.len;refine⟨.map (some w.heap.size),.mref h.length 0,h++[QM .i64 c es],pl++[some (w.heap.size,0)],rfl,⟨rfl,rfl⟩,Ze.NU R e _ (QD _) QX ?_,?_,T,Co QX _⟩
 ·have hx:SC Z (h++[QM .i64 c es]) (pl++[some (w.heap.size,0)]) (w.alloc (.map PC clock)) (QM .i64 c es) w.heap.size 0:=
   ⟨rfl,Je,PC,clock,heap_alloc_new w _,hn,JR,Z6.tr T,λi e he=>⟨(Mp i e he).1,(Mp i e he).2.1.tr T,(Mp i e he).2.2.1.tr T,(Mp i e he).2.2.2.tr T⟩,HC⟩
  exact hx
 ·exact .mref _ _ (QM .i64 c es) (some (w.heap.size,0)) w.heap.size (by simp) (by rw[<- Zf];simp) ⟨by simp[QM,VA,Kd.ty],rfl⟩ (QD _) (λ_=>rfl)
def Qvt{S}{h:List Ob}{t}{T}(R:VN S h t T):MFn prog 97 h [.ptr t 0 0 0] (λd h'=>d=.ptr (h.length+1) 0 0 0/\VN (λl=>h.length<=l) h' (h.length+1) T/\∃g,h'=h++g/\g.length=2):=by
 obtain⟨m,c,es,ht,hm,hT,_,_⟩:=R;refine QU Qh 200 func97 rfl ntmps97 results97 rfl λbase w pl hb=>?_;have Zi:=Qc ht;simp only[go_sem,Qa,ht,Zi];refine BD hb QrF (Qvs hm) λd h hR=>?_;obtain⟨rfl,rfl⟩:=hR;apply Q1 hb;exact⟨⟨h.length,c,es,KX rfl,Ko rfl,hT,by show h.length<=_;omega,QD _⟩,_,rfl,rfl⟩
def Qvu{T:List Qn}(h:Wx T){x:Qn}(hn:Qy T x.iD=none):(VM T x).length=T.length+1:=by
 rw[(G6 x h).length_eq,Vu];congr 1;unfold WJ;rw[xi.2];intro c hc;have:=Ff.1 hn c hc;simpa using this
def Qvv{T:List Qn}(h:Wx T){x y:Qn}(hy:Qy T x.iD=some y):(VM T x).length<=T.length:=by
 rw[(G6 x h).length_eq,Vu];obtain⟨h1,h2⟩:=(Wy h).1 hy;have:(WJ T x.iD).length<T.length:=by
  unfold WJ;refine Nat.lt_of_le_of_ne (Yo _ _) λe=>?_;have:=(List.length_filter_eq_length_iff.1 e) y h1;simp[h2]at this
 omega
section
variable {T:List Qn}(I:K0 T)
include I
theorem K0.add{x:Qn}(h:Ao T x (up T x.parent).length=0):K0 (VM T x):=by
 unfold Ao at h;by_cases h0:KY x=0;case neg=>rw[Qg h0]at h;exact absurd h h0
 rw[Qd (by simpa using h0)]at h;cases h1:Qy T x.iD with
 | some y=>rw[h1]at h;simp at h
 | none=>
  rw[h1,Qd (by simp)]at h;by_cases h2:T.length=64
  ·rw[Qg h2]at h;cases h
  rw[Qd h2]at h;by_cases h3:(x.parent≠0/\(Qy T x.parent).isNone)\/((Qy T x.parent).getD default).leaf=true
  ·rw[Qg h3]at h;cases h
  rw[Qd h3]at h;by_cases h4:1<QZ x.ls/\XJ T x.parent=false
  ·rw[Qg h4]at h;cases h
  rw[Qd h4]at h;by_cases h5:(up T x.parent).length=16
  ·rw[Qg h5]at h;cases h
  have Zk:=right_id h0;have hp:x.parent=0\/∃d,Qy T x.parent=some d/\d.leaf=false:=by
   by_cases hp:x.parent=0
   ·exact .inl hp
   ·cases hf:Qy T x.parent with
    | none=>exact absurd (.inl ⟨hp,by rw[hf];rfl⟩) h3
    | some d=>
     refine .inr ⟨d,rfl,?_⟩;rw[zT];exact λhl=>h3 (.inr (by rw[hf];exact hl))
  have I2:=I.toTreeInv.add h0 h1 (hp.elim .inl λ⟨d,hd,_⟩=>.inr (by rw[hd];rfl)) h5;refine⟨I2,λc hc=>?_,λc hc Yd=>?_,λc hc hs Yd=>?_,?_⟩
  ·rcases xX I.rising x hc with rfl|hc
   ·exact h0
   ·exact I.right c hc
  ·rcases xX I.rising x hc with rfl|hc
   ·rcases hp with hp|⟨d,hd,hl⟩
    ·exact absurd hp Yd
    ·exact⟨d,by rw[xW I.rising,Qd Zk.2.2];exact hd,hl⟩
   ·obtain⟨d,hd,hl⟩:=I.X9 c hc Yd;refine⟨d,?_,hl⟩;rw[xW I.rising,Qd (λe=>by rw[e,h1]at hd;cases hd)];exact hd
  ·rcases xX I.rising x hc with rfl|hc
   ·have JO:XJ T c.parent=true:=by
     rw[<- Bool.not_eq_false];exact λhf=>h4 ⟨hs,hf⟩
    unfold XJ at JO;unfold vp;rw[xW I.rising,Qd Zk.2.2];rw[yD]at JO;rcases JO with JO|JO
    ·exact absurd (by simpa using JO) Yd
    ·exact JO
   ·have JO:=I.US c hc hs Yd;obtain⟨d,hd,hl⟩:=I.X9 c hc Yd;unfold vp at JO ⊢;rw[xW I.rising,Qd (λe=>by rw[e,h1]at hd;cases hd)];exact JO
  ·rw[Qvu I.rising h1];have:=I.len;omega
theorem K0.del{id}(h:Wh T id=[]):K0 (WJ T id):=by
 have I2:=I.toTreeInv.del h;have Jw:∀c∈T,c.parent≠id:=λc hc e=>by
  have:c.iD∈Wh T id:=Jn.2 ⟨c,JE.2 ⟨hc,by simpa using e⟩,rfl⟩;rw[h]at this;cases this
 refine⟨I2,λc hc=>I.right c (JE.1 hc).1,λc hc Yd=>?_,λc hc hs Yd=>?_,?_⟩
 ·have hc:=(JE.1 hc).1;obtain⟨d,hd,hl⟩:=I.X9 c hc Yd;exact⟨d,by rw[OU I.rising,Qd (Jw c hc)];exact hd,hl⟩
 ·have hc:=(JE.1 hc).1;have:=I.US c hc hs Yd;unfold vp at this ⊢;rw[OU I.rising,Qd (Jw c hc)];exact this
 ·have:=Yo (λc:Qn=>c.iD != id) T;have:=I.len;unfold WJ;omega
theorem K0.set{x}(h:Aq T x=0):K0 (VM T x):=by
 unfold Aq at h;by_cases h0:KY x=0;case neg=>rw[Qg h0]at h;exact absurd h h0
 rw[Qd (by simpa using h0)]at h;cases h1:Qy T x.iD with
 | none=>rw[h1,Qg (by rfl)]at h;cases h
 | some y=>
  rw[h1,Qd (by simp)]at h;simp only[KS]at h;by_cases h2:x.parent≠y.parent\/x.leaf≠y.leaf
  ·rw[Qg h2]at h;cases h
  rw[Qd h2]at h;have h2a:x.parent=y.parent:=vQ λe=>h2 (.inl e);have h2b:x.leaf=y.leaf:=vQ λe=>h2 (.inr e);by_cases h3:(1<QZ x.ls/\XJ T x.parent=false)\/(¬ 1<QZ x.ls/\(Wh T x.iD).any (vp T)=true)
  ·rw[Qg h3]at h;cases h
  have Zk:=right_id h0;have hym:=(Wy I.rising).1 h1;have I2:=I.toTreeInv.set h0 h1 h2a;have wu:∀p d,Qy T p=some d->∃d',Qy (VM T x) p=some d'/\d'.leaf=d.leaf:=λp d hd=>by
   rw[xW I.rising];by_cases hp:p=x.iD
   ·rw[Qg hp];rw[hp,h1]at hd;cases hd;exact⟨x,rfl,h2b⟩
   ·rw[Qd hp];exact⟨d,hd,rfl⟩
  refine⟨I2,λc hc=>?_,λc hc Yd=>?_,λc hc hs Yd=>?_,?_⟩
  ·rcases xX I.rising x hc with rfl|hc
   ·exact h0
   ·exact I.right c hc
  ·have:∃d,Qy T c.parent=some d/\d.leaf=false:=by
    rcases xX I.rising x hc with rfl|hc
    ·rw[h2a]at Yd ⊢;exact I.X9 y hym.1 Yd
    ·exact I.X9 c hc Yd
   obtain⟨d,hd,hl⟩:=this;obtain⟨d',h4,h5⟩:=wu _ d hd;exact⟨d',h4,by rw[h5,hl]⟩
  ·unfold vp;rw[xW I.rising];by_cases hp:c.parent=x.iD
   ·rw[Qg hp];simp only[KS,Yq];refine vQ λhx=>h3 (.inr ⟨hx,?_⟩);rcases xX I.rising x hc with rfl|hc
    ·exact absurd hs hx
    ·rw[Eb];refine⟨c.iD,Jn.2 ⟨c,JE.2 ⟨hc,by simpa using hp⟩,rfl⟩,?_⟩;unfold vp;rw[(Wy I.rising).2 ⟨hc,rfl⟩];simpa using hs
   ·rw[Qd hp];rcases xX I.rising x hc with rfl|hc
    ·have JO:XJ T c.parent=true:=by
      rw[<- Bool.not_eq_false];exact λhf=>h3 (.inl ⟨hs,hf⟩)
     unfold XJ at JO;rw[yD]at JO;rcases JO with JO|JO
     ·exact absurd (by simpa using JO) Yd
     ·exact JO
    ·exact I.US c hc hs Yd
  ·have:=Qvv I.rising h1;have:=I.len;omega
end
def vF(T:List Qn)(c:Z3):Int:=if c.kind=1 then Ao T c.cls (up T c.cls.parent).length else if c.kind=3 then Aq T c.cls else if c.kind=2 then Ap T c.cls.iD else 1
def AH(T:List Qn)(c:Z3):List Qn:=if vF T c=0 then (if c.kind=2 then WJ T c.cls.iD else VM T c.cls) else T
def K0.one{T}(I:K0 T)(c):K0 (AH T c):=by
 unfold AH;by_cases h:vF T c=0
 ·rw[Qg h];unfold vF at h;by_cases k1:c.kind=1
  ·rw[Qg k1]at h;rw[Qd (by omega)];exact I.add h
  ·rw[Qd k1]at h;by_cases k3:c.kind=3
   ·rw[Qg k3]at h;rw[Qd (by omega)];exact I.set h
   ·rw[Qd k3]at h;by_cases k2:c.kind=2
    ·rw[Qg k2]at h ⊢;unfold Ap at h;by_cases h1:(Qy T c.cls.iD).isNone=true
     ·rw[Qg h1]at h;cases h
     ·rw[Qd h1]at h;by_cases h2:Wh T c.cls.iD≠[]
      ·rw[Qg h2]at h;cases h
      ·exact I.del (vQ h2)
    ·rw[Qd k2]at h;cases h
 ·rw[Qd h];exact I
def Wi.toS{S}{h h'}{t m}{L}(A:Wi h t m L h')(st:S t)(sm:S m):VN S h' t L/\Step S h h':=by
 obtain⟨⟨c,es,h1,h2,h3⟩,hl,ho⟩:=A;exact⟨⟨m,c,es,h1,h2,h3,st,sm⟩,⟨λl h4 h5=>ho l h4 (λe=>h5 (e▸sm)),hl⟩⟩
section
variable {S:Nat->Prop}{h:List Ob}{t:Nat}{T:List Qn}(R:VN S h t T)(I:K0 T)
include R I
theorem Qvy(x:Qn):MFn prog 154 h [.ptr t 0 0 0,Xd x] (λd h'=>d=Qb (Ao T x (up T x.parent).length)/\VN S h' t (if Ao T x (up T x.parent).length=0 then VM T x else T)/\Step S h h'):=by
 obtain⟨m,c,es,h1,h2,h3,h4,h5⟩:=R;have:=I.len;exact MFn.mono (Qtc h t m c h3 h1 h2 x 16 (by decide) (I.ends _)) λd h' ⟨e,A⟩=>⟨e,A.toS h4 h5⟩
theorem Qvz(x):MFn prog 155 h [.ptr t 0 0 0,Xd x] (λd h'=>d=Qb (Aq T x)/\VN S h' t (if Aq T x=0 then VM T x else T)/\Step S h h'):=by
 obtain⟨m,c,es,h1,h2,h3,h4,h5⟩:=R;have:=I.len;exact MFn.mono (Qti h t m c h3 (by omega) h1 h2 x) λd h' ⟨e,A⟩=>⟨e,A.toS h4 h5⟩
theorem QvA(id):MFn prog 157 h [.ptr t 0 0 0,Qb id] (λd h'=>d=Qb (Ap T id)/\VN S h' t (if Ap T id=0 then WJ T id else T)/\Step S h h'):=by
 obtain⟨m,c,es,h1,h2,h3,h4,h5⟩:=R;have:=I.len;exact MFn.mono (Qtd h t m c h3 (by omega) h1 h2 id) λd h' ⟨e,A⟩=>⟨e,A.toS h4 h5⟩
end
def VN.app{S}{h:List Ob}{t}{T}(R:VN S h t T)(g):VN (λl=>S l/\l<h.length) (h++g) t T:=R.step λl hl hs=>⟨⟨hs,hl⟩,QC hl⟩
def QvB{S}{h:List Ob}{t tb}{T}(R:VN S h t T)(I:K0 T)(x:Qn)(Zo:h[tb]? = some ⟨.one,0,1,1,λ_=>[.ptr t 0 0 0]⟩):MFn prog 156 h [Xd x,.ptr tb 0 0 0] (λd h'=>d=Qb (Ap T x.iD)/\VN S h' t (if Ap T x.iD=0 then WJ T x.iD else T)/\Step S h h'):=by
 refine QU Qh 200 func156 rfl ntmps156 results156 rfl λbase w pl hb=>?_;have wv:=Qc Zo;simp only[go_sem,Qa,Zo,wv];refine BD hb QrK (QvA (R.app _) I x.iD) λd h hR=>?_;obtain⟨rfl,R6,s6⟩:=hR;refine Qf hb ?_;simp only[go_sem,Qa,Zo,wv];exact⟨R6.step λl _ hs=>⟨hs.1,rfl⟩,⟨λl h1 h2=>(s6.keep l (by simp;omega) (λh3=>h2 h3.1)).trans (QC h1),by have:=s6.len;simp at this;omega⟩⟩
def QvC{S}{h}{t}{T}(R:VN S h t T)(I:K0 T)(x:Z3):MFn prog 119 h [.ptr t 0 0 0,.agg x.cells] (λd h'=>d=Qb (vF T x)/\VN S h' t (AH T x)/\Step S h h'):=by
 have fin:∀{g h6:List Ob} {T':List Qn},VN (λl=>S l/\l<h.length) h6 t T'->Step (λl=>S l/\l<h.length) (h++g) h6->VN S h6 t T'/\Step S h h6:=λ{g h6 T'} R6 s6=>
  ⟨R6.step λl _ hs=>⟨hs.1,rfl⟩,⟨λl h1 h2=>(s6.keep l (by simp;omega) (λh3=>h2 h3.1)).trans (QC h1),by have:=s6.len;simp at this;omega⟩⟩
 unfold AH vF;by_cases k1:x.kind=1
 ·have d1:(x.kind==1)=true:=by simpa using k1
  simp only[Qg k1,Qd (show ¬ x.kind=2 by omega)];refine QU Qh 200 func119 rfl ntmps119 results119 rfl λbase w pl hb=>?_;simp only[go_sem,Qa,d1];refine Jl hb QrH (Qvy (R.app _) I x.cls) λd h hR=>?_;obtain⟨rfl,R6,s6⟩:=hR;apply ZC hb;exact fin R6 s6
 ·have d1:(x.kind==1)=false:=by simpa using k1
  simp only[Qd k1];by_cases k3:x.kind=3
  ·have d3:(x.kind==3)=true:=by simpa using k3
   simp only[Qg k3,Qd (show ¬ x.kind=2 by omega)];refine QU Qh 200 func119 rfl ntmps119 results119 rfl λbase w pl hb=>?_;simp only[go_sem,Qa,d1,d3];refine Jl hb QrI (Qvz (R.app _) I x.cls) λd h hR=>?_;obtain⟨rfl,R6,s6⟩:=hR;apply ZC hb;exact fin R6 s6
  ·have d3:(x.kind==3)=false:=by simpa using k3
   simp only[Qd k3];by_cases k2:x.kind=2
   ·have d2:(x.kind==2)=true:=by simpa using k2
    simp only[Qg k2];refine QU Qh 200 func119 rfl ntmps119 results119 rfl λbase w pl hb=>?_;simp only[go_sem,Qa,d1,d2,d3];refine Jl hb QrJ (QvB (tb:=h.length) (R.app _) I x.cls (Ko rfl)) λd h hR=>?_;obtain⟨rfl,R6,s6⟩:=hR;apply ZC hb;exact fin R6 s6
   ·have d2:(x.kind==2)=false:=by simpa using k2
    simp only[Qd k2];refine QU Qh 200 func119 rfl ntmps119 results119 rfl λbase w pl hb=>?_;simp only[go_sem,Qa,d1,d2,d3];exact⟨R.step λl hl hs=>⟨hs,QC hl⟩,Step.app S h _⟩
end Go.Fg.X
namespace Go.Fg
open Go.RowKit (Below)
section
variable {P:Program}{L:Zm}{base nt:Nat}{s:St}{o:Oper}{t:TypeId}{x i:Operand}
def Ph(hL:ZR P L){v}(ho:o.op=.insert t x i v){p}{h'}(h:EB L s.h t (Qr s.fr x) (Qr s.fr i) (Qr s.fr v)=some (p,h'))(hp:p):∀(Z:Nat->Prop) pl a w,Rel Z base nt s pl a w->base<=w.heap.size->∃v w' Qj,((execOp a.eval o).run P w=.ok (.value v) w'\/((execOp a.eval o).run P w=.ok .skip w'/\v=Go.undef))/\Tr s.h pl w h' Qj w'/\Ze Z base h' Qj w'/\QA Z h' Qj w' .undef v/\Below base w w'/\q5 w w':=by
 have h1:=rO (P:=P) (base:=base) (nt:=nt) (o:=⟨o.dst,.mapUpdate t x i v,o.type,o.pos,o.after,o.guard⟩) hL rfl h hp;intro Z pl a w r hb;obtain⟨u,w',Qj,h2,h3⟩:=h1 Z pl a w r hb;have e:execOp a.eval ⟨o.dst,.mapUpdate t x i v,o.type,o.pos,o.after,o.guard⟩=execOp a.eval o:=by simp[execOp,ho]
 rw[e]at h2;exact⟨u,w',Qj,h2,h3⟩
end
section
variable {P:Program}{base nt:Nat}{w0:Start}{Q:Exit->St->Prop}{k:List Item}{s:St}{X:Cx}
def QvD{L}(hL:ZR P L)(QX:base<=w0.w.heap.size){K}{ty:TypeId}{pos}{after}{gd}{r}{t:TypeId}{x i v}{p}{h'}
  (h:EB L s.h t (Qr s.fr x) (Qr s.fr i) (Qr s.fr v)=some (p,h')) (hp:p) (hk:AX P base nt w0 K r ⟨s.fr,h'⟩):AX P base nt w0 K ((false,⟨none,.insert t x i v,ty,pos,after,gd⟩,none)::r) s:=by
 simp only[AX,WI,Y8];intro Z z pl a w rr b;obtain⟨u,w',Qj,Q5,hT,hO,hv,hb,hC⟩:=Ph (P:=P) (base:=base) (nt:=nt) (o:=⟨none,.insert t x i v,ty,pos,after,gd⟩) hL rfl h hp Z pl a w rr (Kz QX b.1.size);unfold Oper.wp;rcases Q5 with Q5|⟨Q5,hu⟩
 ·rw[Q5];simp only[Oper.upon_value];exact⟨hC,.undef,_,Qj,u,hk,rr.xo hT hO u,b.step hT hb,hT,rfl⟩
 ·rw[Q5];simp only[Oper.upon_skip];exact⟨hC,.undef,_,Qj,_,hk,rr.xo hT hO _,b.step hT hb,hT,rfl⟩
def QvE{L:Zm}(hL:ZR P L)(QX:base<=w0.w.heap.size){K:St->Prop}{ty0:TypeId}{pos:String}{after:Array Edge}{gd:Option (Nat × Bool)}{r:List (Bool × Oper × G)}{t kt et a b a' b':Nat}{zt zt':List Value}{x i v:Operand}{q:IntKind}{l c:Nat}{es:List QR}{n:Int}
  (ht:ty L t=some ⟨.map kt et,a,b,zt⟩) (jV:ty L kt=some ⟨.int q,a',b',zt'⟩) (hx:Qr s.fr x=.mref l 0) (hi:Qr s.fr i=.raw (.int q n)) (ho:s.h[l]? = some (QM q c es))
  (hk:AX P base nt w0 K r ⟨s.fr,s.h.set l (JI q c es n (Qr s.fr v))⟩):AX P base nt w0 K ((false,⟨none,.insert t x i v,ty0,pos,after,gd⟩,none)::r) s:=by
 refine QvD hL QX (h':=s.h.set l (JI q c es n (Qr s.fr v))) (p:=IsMap q (QM q c es)/\q=q/\0=0/\(QM q c es).kd.ro=false) ?_ ⟨?_,rfl,rfl,rfl⟩ hk
 ·rw[hx,hi];simp only[EB,ht,jV,ho];rw[eK,eL]
 ·exact(rH q c es).mpr trivial
def Dv(s1){id}{ops}(hX:Y0 P X)(hb:base<=w0.w.heap.size)(hm:P.follows .mixedOrders=true)(l)(R)(hB:Bo [] X.L ops l R=true)(hU:y6 ops s.fr=true)
  (Fa:∀s,QI w0 s s1->Qw P base nt w0 Q k .normal s) (h:Kn P base w0 X nt (CL P base w0 X nt (λs=>QI w0 s s1) R.length (zg [] ops R) (l.map (·.1))) (KV [] ops l) s):Qw P base nt w0 Q (.code (.region id ops true)::k) .normal s:=by
 have hR:R.Nodup:=by
  simp only[Bo,ZJ]at hB;exact(Uc hB.1.2).1
 exact tf hX.L hb hm l R hB hU (AX.mono (λs hs=>fx hX hb (λs hs=>Fa s hs) _ _ _ s hR hs) _ _ (CK hX hb _ _ h))
end
section
variable {P:Program}{L:Zm}{base nt:Nat}{w0:Start}{Q:Exit->St->Prop}
end
end Go.Fg
