/- Contracts and laws on the way to the statement. No conditions. -/
import Derived.Test.YtkfemlhbbcojnaaGreatCA3D
import Derived.Shelf.SlMaps.Clone
import Derived.Sort.AssemblyPlain
set_option maxRecDepth 100000
set_option maxHeartbeats 16000000
set_option linter.unusedVariables false
set_option linter.unusedSimpArgs false
set_option linter.unusedSectionVars false
set_option linter.defProp false
namespace Go.Fg.X
open Go.Proofs Go.Fg
open Go.Proofs.Tryz
def ox{h:List Ob}{lx ly}{ix iy}{a b c:Tr}{e e'}{p p' q q'}(hx:h[lx]? = some (Ef ix (.ptr ly 0 0 0) c.ptr e p p'))(hy:h[ly]? = some (Ef iy a.ptr b.ptr e' q q'))
  (ia:Vb h a) (ib:Vb h b) (ic:Vb h c) (nd:(lx::ly::(a.QJ++b.QJ++c.QJ)).Nodup) (hs:a.size+b.size+c.size<900000) :
  QH prog 335 h [.ptr lx 0 0 0,Qa 0] (λd h'=>d=.ptr ly 0 0 0/\Vb h' (.node ly iy a (.node lx ix b c))/\h'.length=h.length/\∀l,l≠lx->l≠ly->h'[l]? = h[l]?):=by
 have wy:=nd;simp only[Zz,QD,QX,YX]at wy;obtain⟨⟨QA,⟨na,nb⟩,nc⟩,⟨⟨ma,mb⟩,mc⟩,_⟩:=wy;have jY:ly≠lx:=Q3 QA;rcases b with _|⟨b1,b2,b3,b4⟩
 .simp only[Tr.RM]at hx hy;refine QQ func335 ntmps335 results335 λbase w pl hb=>?_;have vh:=Qb hx;have wz:=Qb hy;simp only[go_sem,hx];apply QF hb O1;simp only[go_sem,hx,hy,Qr QA];refine YB hb Ce rfl ?_ (Cr (loc:=lx) (l:=Tr.nil) (r:=c) (it:=ix) (hi:=p) (n:=p') (le:=e) ⟨?_,?_,?_⟩ ?_ ?_ nb nc) rfl λd h' hR=>?_
  .simp only[go_sem]
  .rw[Qr jY,QE vh];rfl
  .exact(ib.set _ nb).set _ mb
  .exact(ic.set _ nc).set _ mc
  .omega
  .omega
  subst hR;apply Qn hb;refine YB hb Ce rfl ?_ (Cr (loc:=ly) (l:=a) (r:=(.node lx ix Tr.nil c)) (it:=iy) (hi:=q) (n:=q') (le:=e') ⟨?_,?_,?_⟩ ?_ ?_ ?_ ?_) rfl λd h' hR=>?_
  .simp only[go_sem]
  .rw[Qr QA,QE (by simpa using wz)];rfl
  .exact((ia.set _ na).set _ ma).set _ na
  .exact⟨QE (by simpa using vh),((ib.set _ nb).set _ mb).set _ nb,((ic.set _ nc).set _ mc).set _ nc⟩
  .simp only[Tr.size]at *;omega
  .simp only[Tr.size]at *;omega
  .exact ma
  .intro hm;rcases QD.1 hm with hm|hm;exact jY hm;rcases QX.1 hm with hm|hm;exact mb hm;exact mc hm
  subst hR;apply JH hb;exact⟨⟨QE (by simpa using wz),(((ia.set _ na).set _ ma).set _ na).set _ ma,⟨by rw[Qr jY,QE (by simpa using vh)];rfl,(((ib.set _ nb).set _ mb).set _ nb).set _ mb,(((ic.set _ nc).set _ mc).set _ nc).set _ mc⟩⟩,λl k1 k2=>by rw[Qr (Q3 k2),Qr (Q3 k1),Qr (Q3 k2),Qr (Q3 k1)]⟩
 .simp only[Tr.Im]at hx hy;refine QQ func335 ntmps335 results335 λbase w pl hb=>?_;have vh:=Qb hx;have wz:=Qb hy;simp only[go_sem,hx];apply QF hb O1;simp only[go_sem,hx,hy,Qr QA];refine YB hb Ce rfl ?_ (Cr (loc:=lx) (l:=(Tr.node b1 b2 b3 b4)) (r:=c) (it:=ix) (hi:=p) (n:=p') (le:=e) ⟨?_,?_,?_⟩ ?_ ?_ nb nc) rfl λd h' hR=>?_
  .simp only[go_sem]
  .rw[Qr jY,QE vh];rfl
  .exact(ib.set _ nb).set _ mb
  .exact(ic.set _ nc).set _ mc
  .omega
  .omega
  subst hR;apply Qn hb;refine YB hb Ce rfl ?_ (Cr (loc:=ly) (l:=a) (r:=(.node lx ix (Tr.node b1 b2 b3 b4) c)) (it:=iy) (hi:=q) (n:=q') (le:=e') ⟨?_,?_,?_⟩ ?_ ?_ ?_ ?_) rfl λd h' hR=>?_
  .simp only[go_sem]
  .rw[Qr QA,QE (by simpa using wz)];rfl
  .exact((ia.set _ na).set _ ma).set _ na
  .exact⟨QE (by simpa using vh),((ib.set _ nb).set _ mb).set _ nb,((ic.set _ nc).set _ mc).set _ nc⟩
  .simp only[Tr.size]at *;omega
  .simp only[Tr.size]at *;omega
  .exact ma
  .intro hm;rcases QD.1 hm with hm|hm;exact jY hm;rcases QX.1 hm with hm|hm;exact mb hm;exact mc hm
  subst hR;apply JH hb;exact⟨⟨QE (by simpa using wz),(((ia.set _ na).set _ ma).set _ na).set _ ma,⟨by rw[Qr jY,QE (by simpa using vh)];rfl,(((ib.set _ nb).set _ mb).set _ nb).set _ mb,(((ic.set _ nc).set _ mc).set _ nc).set _ mc⟩⟩,λl k1 k2=>by rw[Qr (Q3 k2),Qr (Q3 k1),Qr (Q3 k2),Qr (Q3 k1)]⟩
def oy{h:List Ob}{lx ly}{ix iy}{a b c:Tr}{e e'}{p p' q q'}(hx:h[lx]? = some (Ef ix a.ptr (.ptr ly 0 0 0) e p p'))(hy:h[ly]? = some (Ef iy b.ptr c.ptr e' q q'))
  (ia:Vb h a) (ib:Vb h b) (ic:Vb h c) (nd:(lx::ly::(a.QJ++b.QJ++c.QJ)).Nodup) (hs:a.size+b.size+c.size<900000) :
  QH prog 335 h [.ptr lx 0 0 0,Qa 1] (λd h'=>d=.ptr ly 0 0 0/\Vb h' (.node ly iy (.node lx ix a b) c)/\h'.length=h.length/\∀l,l≠lx->l≠ly->h'[l]? = h[l]?):=by
 have wy:=nd;simp only[Zz,QD,QX,YX]at wy;obtain⟨⟨QA,⟨na,nb⟩,nc⟩,⟨⟨ma,mb⟩,mc⟩,_⟩:=wy;have jY:ly≠lx:=Q3 QA;rcases b with _|⟨b1,b2,b3,b4⟩
 .simp only[Tr.RM]at hx hy;refine QQ func335 ntmps335 results335 λbase w pl hb=>?_;have vh:=Qb hx;have wz:=Qb hy;simp only[go_sem,hx];apply QF hb O1;simp only[go_sem,hx,hy,Qr QA];refine YB hb Ce rfl ?_ (Cr (loc:=lx) (l:=a) (r:=Tr.nil) (it:=ix) (hi:=p) (n:=p') (le:=e) ⟨?_,?_,?_⟩ ?_ ?_ na nb) rfl λd h' hR=>?_
  .simp only[go_sem]
  .rw[Qr jY,QE vh];rfl
  .exact(ia.set _ na).set _ ma
  .exact(ib.set _ nb).set _ mb
  .omega
  .omega
  subst hR;apply Qn hb;refine YB hb Ce rfl ?_ (Cr (loc:=ly) (l:=(.node lx ix a Tr.nil)) (r:=c) (it:=iy) (hi:=q) (n:=q') (le:=e') ⟨?_,?_,?_⟩ ?_ ?_ ?_ ?_) rfl λd h' hR=>?_
  .simp only[go_sem]
  .rw[Qr QA,QE (by simpa using wz)];rfl
  .exact⟨QE (by simpa using vh),((ia.set _ na).set _ ma).set _ na,((ib.set _ nb).set _ mb).set _ nb⟩
  .exact((ic.set _ nc).set _ mc).set _ nc
  .simp only[Tr.size]at *;omega
  .simp only[Tr.size]at *;omega
  .intro hm;rcases QD.1 hm with hm|hm;exact jY hm;rcases QX.1 hm with hm|hm;exact ma hm;exact mb hm
  .exact mc
  subst hR;apply JH hb;exact⟨⟨QE (by simpa using wz),⟨by rw[Qr jY,QE (by simpa using vh)];rfl,(((ia.set _ na).set _ ma).set _ na).set _ ma,(((ib.set _ nb).set _ mb).set _ nb).set _ mb⟩,(((ic.set _ nc).set _ mc).set _ nc).set _ mc⟩,λl k1 k2=>by rw[Qr (Q3 k2),Qr (Q3 k1),Qr (Q3 k2),Qr (Q3 k1)]⟩
 .simp only[Tr.Im]at hx hy;refine QQ func335 ntmps335 results335 λbase w pl hb=>?_;have vh:=Qb hx;have wz:=Qb hy;simp only[go_sem,hx];apply QF hb O1;simp only[go_sem,hx,hy,Qr QA];refine YB hb Ce rfl ?_ (Cr (loc:=lx) (l:=a) (r:=(Tr.node b1 b2 b3 b4)) (it:=ix) (hi:=p) (n:=p') (le:=e) ⟨?_,?_,?_⟩ ?_ ?_ na nb) rfl λd h' hR=>?_
  .simp only[go_sem]
  .rw[Qr jY,QE vh];rfl
  .exact(ia.set _ na).set _ ma
  .exact(ib.set _ nb).set _ mb
  .omega
  .omega
  subst hR;apply Qn hb;refine YB hb Ce rfl ?_ (Cr (loc:=ly) (l:=(.node lx ix a (Tr.node b1 b2 b3 b4))) (r:=c) (it:=iy) (hi:=q) (n:=q') (le:=e') ⟨?_,?_,?_⟩ ?_ ?_ ?_ ?_) rfl λd h' hR=>?_
  .simp only[go_sem]
  .rw[Qr QA,QE (by simpa using wz)];rfl
  .exact⟨QE (by simpa using vh),((ia.set _ na).set _ ma).set _ na,((ib.set _ nb).set _ mb).set _ nb⟩
  .exact((ic.set _ nc).set _ mc).set _ nc
  .simp only[Tr.size]at *;omega
  .simp only[Tr.size]at *;omega
  .intro hm;rcases QD.1 hm with hm|hm;exact jY hm;rcases QX.1 hm with hm|hm;exact ma hm;exact mb hm
  .exact mc
  subst hR;apply JH hb;exact⟨⟨QE (by simpa using wz),⟨by rw[Qr jY,QE (by simpa using vh)];rfl,(((ia.set _ na).set _ ma).set _ na).set _ ma,(((ib.set _ nb).set _ mb).set _ nb).set _ mb⟩,(((ic.set _ nc).set _ mc).set _ nc).set _ mc⟩,λl k1 k2=>by rw[Qr (Q3 k2),Qr (Q3 k1),Qr (Q3 k2),Qr (Q3 k1)]⟩
def oA{h}{loc}{it}{l r:Tr}{le}{hi n}(i:Raw h loc it l r le hi n)(nd:(loc::(l.QJ++r.QJ)).Nodup)(hs:l.size+r.size<800000):
  QH prog 328 h [.ptr loc 0 0 0] (λd h'=>∃t',d=t'.ptr/\zX h (.node loc it l r) (l.list++it::r.list) h' t'):=by
 have wy:=nd;simp only[Zz,QX,YX]at wy;obtain⟨⟨nl,nr⟩,nd3⟩:=wy;have hl:=l.NB;have hr:=r.NB;have el:IntKind.i64.wrap ((l.high:Int)+1)=((l.high+1:Nat):Int):=Zu;have er:IntKind.i64.wrap ((r.high:Int)+1)=((r.high+1:Nat):Int):=Zu;have h1:=i.o;refine QQ func328 ntmps328 results328 λbase w pl hb=>?_;have Kx:=Qb h1;simp only[go_sem];refine Zw hb Ce (Cr (loc:=loc) i ω ω nl nr) λd h2 hR=>?_;have hlen:h2.length=h.length:=by rw[hR];simp
 have t2:Vb h2 (.node loc it l r):=by
  rw[hR];exact⟨QE Kx,i.il.set _ nl,i.ir.set _ nr⟩
 have k2:∀k,k≠loc->h2[k]? = h[k]? := λk hk=>by rw[hR,Qr (Q3 hk)]
 clear hR;have u2:zX h (.node loc it l r) (Tr.node loc it l r).list h2 (.node loc it l r):=⟨t2,rfl,nd,λ_ h=>.inl h,λk _ hn=>k2 k λe=>hn (by rw[e];simp[Tr.QJ]),ω⟩;have h3:=t2.1;have KB:=Qb h3;apply Qg hb;simp only[go_sem,h3];refine wv 2 ?_;apply Qn hb;apply QF hb [0,2,3,4,5,6,7,8,1001,1009,10,11];simp only[go_sem,h3];apply Wz hb jQ (jX t2.2.1.toR);apply ZA hb;apply Wz hb jQ (jX t2.2.2.toR);apply ZH hb;simp only[go_sem,er];by_cases c0:l.high<=r.high+1
 .have d0:=QU c0;simp only[go_sem,d0];apply Qn hb;apply QF hb [0,2,3,4,5,6,7,8,1001,1009,10,11];simp only[go_sem,h3];apply Wz hb jQ (jX t2.2.2.toR);apply ZA hb;apply Wz hb jQ (jX t2.2.1.toR);apply ZH hb;simp only[go_sem,el];by_cases c1:r.high<=l.high+1
  .have d1:=QU c1;simp only[go_sem,d1];apply Qn hb;apply Qn hb;exact⟨.node loc it l r,rfl,u2⟩
  .have d1:=QI c1;simp only[go_sem,d1];cases r with
   | nil=>exact absurd (Jh _) c1
   | node ly iy b a=>
    have Ju:=hs;simp only[Tr.size]at Ju;have h4:=t2.2.2.1;have oB:=Qb h4;have QA:loc≠ly:=by rintro rfl;simp[Tr.QJ,Zz,JJ,QD,QX]at nd
    apply QF hb [0,1,2,3,4,5,6,8,9,10,11,12,13,1007,1014,15];simp only[go_sem,h4];apply Wz hb jQ (jX t2.2.2.2.1.toR);apply ZA hb;apply Wz hb jQ (jX t2.2.2.2.2.toR);apply ZA hb;by_cases c2:a.high<b.high
    .have d2:=QU c2;simp only[go_sem,d2];cases b with
     | nil=>exact absurd c2 (WZ _)
     | node lb ib b1 b2=>
      simp only[Tr.Im]at h4;simp only[Tr.size]at Ju;have h5:=t2.2.2.2.1.1;have QsC:=Qb h5;have KO:loc≠lb:=by rintro rfl;simp[Tr.QJ,Zz,JJ,QD,QX]at nd
      have yP:ly≠lb:=by rintro rfl;simp[Tr.QJ,Zz,JJ,QD,QX]at nd
      apply Vk [5] hb [0,1,2,3,4,6,7,1005,8,1009] [];simp only[go_sem];refine jZ hb Nr (ox (lx:=ly) (ly:=lb) (a:=b1) (b:=b2) (c:=a) h4 h5 t2.2.2.2.1.2.1 t2.2.2.2.1.2.2 t2.2.2.2.2 (by simp only[Tr.QJ,Zz,JJ,QD,QX]at nd ⊢;grind) ω) λd h6 hR=>?_;obtain⟨rfl,t4,l4,k4⟩:=hR;have h7:h6[loc]? = _:=(k4 loc QA KO).trans h3;have El:=Qb h7;apply ZH hb;simp only[go_sem,h7];have tr:Vb h6 l:=t2.2.1.frame λk hk=>k4 k (by rintro rfl;simp only[Tr.QJ,Zz,JJ,QD,QX]at nd;grind) (by rintro rfl;simp only[Tr.QJ,Zz,JJ,QD,QX]at nd;grind);apply Qn hb;refine Zw hb Nr (oy (lx:=loc) (ly:=lb) (a:=l) (b:=b1) (c:=.node ly iy b2 a) (QE El) ((Qr KO).trans t4.1) (tr.set _ nl) (t4.2.1.set _ (by simp only[Tr.QJ,Zz,JJ,QD,QX]at nd ⊢;grind)) (t4.2.2.set _ (by simp only[Tr.QJ,Zz,JJ,QD,QX]at nd ⊢;grind)) (by simp only[Tr.QJ,Zz,JJ,QD,QX]at nd ⊢;grind) (by simp only[Tr.size];omega)) λd h8 hR=>?_;obtain⟨rfl,t8,l8,k8⟩:=hR;apply Qn hb;refine⟨(.node lb ib (.node loc it l b1) (.node ly iy b2 a)),rfl,u2.trans ⟨t8,by simp[Tr.list],by simp only[Tr.QJ,Zz,JJ,QD,QX]at nd ⊢;grind,λk hk=>.inl (by simp only[Tr.QJ,QD,QX]at hk ⊢;grind),λk _ hk=>?_,by rw[l8,Wu,l4];exact QB _⟩⟩;simp only[Tr.QJ,QD,QX,YX]at hk;rw[k8 k (by grind) (by grind),Qr (by grind),k4 k (by grind) (by grind)]
    .have d2:=QI c2;simp only[go_sem,d2];apply Qn hb;refine Zw hb Nr (oy (lx:=loc) (ly:=ly) (a:=l) (b:=b) (c:=a) h3 h4 t2.2.1 t2.2.2.2.1 t2.2.2.2.2 (by simp only[Tr.QJ,Zz,JJ,QD,QX]at nd ⊢;grind) ω) λd h8 hR=>?_;obtain⟨rfl,t8,l8,k8⟩:=hR;apply Qn hb;refine⟨(.node ly iy (.node loc it l b) a),rfl,u2.trans ⟨t8,by simp[Tr.list],by simp only[Tr.QJ,Zz,JJ,QD,QX]at nd ⊢;grind,λk hk=>.inl (by simp only[Tr.QJ,QD,QX]at hk ⊢;grind),λk _ hk=>?_,by rw[l8];exact QB _⟩⟩;simp only[Tr.QJ,QD,QX,YX]at hk;exact k8 k (by grind) (by grind)
 .have d0:=QI c0;simp only[go_sem,d0];cases l with
  | nil=>exact absurd (Jh _) c0
  | node ly iy a b=>
   have Ju:=hs;simp only[Tr.size]at Ju;have h4:=t2.2.1.1;have oB:=Qb h4;have QA:loc≠ly:=by rintro rfl;simp[Tr.QJ,Zz,JJ,QD,QX]at nd
   apply QF hb [0,1,2,3,4,5,6,8,9,10,11,12,13,1007,1014,15];simp only[go_sem,h4];apply Wz hb jQ (jX t2.2.1.2.2.toR);apply ZA hb;apply Wz hb jQ (jX t2.2.1.2.1.toR);apply ZA hb;by_cases c2:a.high<b.high
   .have d2:=QU c2;simp only[go_sem,d2];cases b with
    | nil=>exact absurd c2 (WZ _)
    | node lb ib b1 b2=>
     simp only[Tr.Im]at h4;simp only[Tr.size]at Ju;have h5:=t2.2.1.2.2.1;have QsC:=Qb h5;have KO:loc≠lb:=by rintro rfl;simp[Tr.QJ,Zz,JJ,QD,QX]at nd
     have yP:ly≠lb:=by rintro rfl;simp[Tr.QJ,Zz,JJ,QD,QX]at nd
     apply Vk [5] hb [0,1,2,3,4,6,7,1005,8,1009] [];simp only[go_sem];refine jZ hb Nr (oy (lx:=ly) (ly:=lb) (a:=a) (b:=b1) (c:=b2) h4 h5 t2.2.1.2.1 t2.2.1.2.2.2.1 t2.2.1.2.2.2.2 (by simp only[Tr.QJ,Zz,JJ,QD,QX]at nd ⊢;grind) ω) λd h6 hR=>?_;obtain⟨rfl,t4,l4,k4⟩:=hR;have h7:h6[loc]? = _:=(k4 loc QA KO).trans h3;have El:=Qb h7;apply ZH hb;simp only[go_sem,h7];have tr:Vb h6 r:=t2.2.2.frame λk hk=>k4 k (by rintro rfl;simp only[Tr.QJ,Zz,JJ,QD,QX]at nd;grind) (by rintro rfl;simp only[Tr.QJ,Zz,JJ,QD,QX]at nd;grind);apply Qn hb;refine Zw hb Nr (ox (lx:=loc) (ly:=lb) (a:=.node ly iy a b1) (b:=b2) (c:=r) (QE El) ((Qr KO).trans t4.1) (t4.2.1.set _ (by simp only[Tr.QJ,Zz,JJ,QD,QX]at nd ⊢;grind)) (t4.2.2.set _ (by simp only[Tr.QJ,Zz,JJ,QD,QX]at nd ⊢;grind)) (tr.set _ nr) (by simp only[Tr.QJ,Zz,JJ,QD,QX]at nd ⊢;grind) (by simp only[Tr.size];omega)) λd h8 hR=>?_;obtain⟨rfl,t8,l8,k8⟩:=hR;apply Qn hb;refine⟨(.node lb ib (.node ly iy a b1) (.node loc it b2 r)),rfl,u2.trans ⟨t8,by simp[Tr.list],by simp only[Tr.QJ,Zz,JJ,QD,QX]at nd ⊢;grind,λk hk=>.inl (by simp only[Tr.QJ,QD,QX]at hk ⊢;grind),λk _ hk=>?_,by rw[l8,Wu,l4];exact QB _⟩⟩;simp only[Tr.QJ,QD,QX,YX]at hk;rw[k8 k (by grind) (by grind),Qr (by grind),k4 k (by grind) (by grind)]
   .have d2:=QI c2;simp only[go_sem,d2];apply Qn hb;refine Zw hb Nr (ox (lx:=loc) (ly:=ly) (a:=a) (b:=b) (c:=r) h3 h4 t2.2.1.2.1 t2.2.1.2.2 t2.2.2 (by simp only[Tr.QJ,Zz,JJ,QD,QX]at nd ⊢;grind) ω) λd h8 hR=>?_;obtain⟨rfl,t8,l8,k8⟩:=hR;apply Qn hb;refine⟨(.node ly iy a (.node loc it b r)),rfl,u2.trans ⟨t8,by simp[Tr.list],by simp only[Tr.QJ,Zz,JJ,QD,QX]at nd ⊢;grind,λk hk=>.inl (by simp only[Tr.QJ,QD,QX]at hk ⊢;grind),λk _ hk=>?_,by rw[l8];exact QB _⟩⟩;simp only[Tr.QJ,QD,QX,YX]at hk;exact k8 k (by grind) (by grind)
def RW(d):XC d d=True:=by cases d<;>simp[XC]
def oC:∀l:List D,KA l l
 | []=>trivial
 | d::r=>⟨(RW d).mpr trivial,oC r⟩
def Qev{h}{loc}{it:It}{l r}(i:zk h (.node loc it l r))(a)(k):Q6 prog 327 h [.ptr loc 0 0 0,.agg [u64 a,Qa k]] (λd=>d=Qa (if Ku it.ka it.ki a k then 1 else 0)):=by
 have h2:=i.1;have c1:=ou a k it.ka it.ki;have e1:(0<qP a k it.ka it.ki)↔Ku it.ka it.ki a k:=Qsl;generalize qP a k it.ka it.ki=p at *;refine xD func327 ntmps327 results327 λbase w pl F hF Q7 hb=>?_;rw[<- hF]at h2;have wx:=Qb h2;simp only[go_sem];apply QF hb [0,1,2,3,4,5,1006,7];simp only[go_sem,Qe,h2,wx];apply Jb hb ng c1;apply ZA hb;by_cases hp:0<p
 .have d1:=QU hp;simp only[go_sem,d1];rw[Qd (e1.1 hp)];exact⟨_,rfl,rfl⟩
 .have d1:=QI hp;simp only[go_sem,d1];rw[Qc (λh=>hp (e1.2 h))];exact⟨_,rfl,rfl⟩
structure oD (dv:D) (f nf:Nat) (Qs:List D) (B:List (Nat × Ob)) (a:Nat) (k:Int) (fL:Tr->List It) (N:Nat) (Nl:Prop):Prop where
 fok:Qm prog f
 cal:Jq dv=some (f,nf,Qs)
 len:∀s,(fL s).length<=s.size+1
 run:∀(h:List Ob) (s:Tr),Vb h s->s.QJ.Nodup->s.size<=N->Vc s.list->(s=.nil->Nl)->(∀loc it l r,s=.node loc it l r->it.ka=a/\it.ki=k)->(∀p∈B,h[p.1]? = some p.2/\p.1 ∉ s.QJ) ->
  QH prog f h (ZT nf Qs [s.ptr]) (λd h'=>∃s',d=s'.ptr/\zX h s (fL s) h' s')
def Qhz{a}{k}{fL:Tr->List It}(hf:∀s,(fL s).length<=s.size+1):∀t:Tr,(t.Bj a k fL).length<=t.size+1
 | .nil=>hf _
 | .node loc it l r=>by
  have h1:=Qhz (a:=a) (k:=k) hf l;have h2:=Qhz (a:=a) (k:=k) hf r;have h3:=hf (.node loc it l r);have h4:=Tr.Bg l;have h5:=Tr.Bg r;rw[Tr.Bj];split
  .exact h3
  .split
   .simp only[ZW,Kv,Tr.size]at *;omega
   .simp only[ZW,Kv,Tr.size]at *;omega
def Vb.app{h}{t}(i:Vb h t)(g):Vb (h++g) t:=i.frame λl hl=>QG (i.lt l hl)
def zX.under{h g h'}{t t'}{L}(u:zX (h++g) t L h' t'):zX h t L h' t':=
 ⟨u.is,u.list,u.nd,λl hl=>by
  rcases u.mem l hl with h1|h1
  .exact .inl h1
  .exact .inr (by simp only[ZW]at h1;omega),λl hl hn=>by rw[u.keep l (by simp only[ZW];omega) hn,QG hl],by have:=u.len;simp only[ZW]at this;omega⟩
def RX{dv}{f nf}{Qs}{B}{a}{k}{fL}{N}{Nl}(O:oD dv f nf Qs B a k fL N Nl)(hN:N<700000):
  ∀(t:Tr) (h:List Ob),Vb h t->t.QJ.Nodup->t.size<=N->Vc t.list->(t.find a k=.nil->Nl)->(∀p∈B,h[p.1]? = some p.2/\p.1 ∉ t.QJ) ->
   QH prog 306 h [t.ptr,.agg [u64 a,Qa k],dv] (λd h'=>∃t',d=t'.ptr/\zX h t (t.Bj a k fL) h' t')
 | .nil,h,i,nd,hs,KZ,dK,hB=>by
  have hd:=O.run;have hO:=O.fok;have hc:=O.cal;refine QQ func306 ntmps306 results306 λbase w pl hb=>?_;simp only[go_sem];apply QF hb O3;simp only[go_sem];refine YB hb hO hc (oC _) (hd _ .nil trivial (by simp[Tr.QJ]) (Jh _) KZ (λ_=>dK rfl) (λ_ _ _ _ e=>by cases e) λp hp=>⟨(QG (Qb (hB p hp).1)).trans (hB p hp).1,(hB p hp).2⟩) rfl λd h2 hR=>?_;obtain⟨s',rfl,u⟩:=hR;apply Qn hb;exact⟨s',rfl,u.under⟩
 | .node loc it l r,h,i,nd,hs,KZ,dK,hB=>by
  have hd:=O.run;have hO:=O.fok;have hc:=O.cal;have h1:=i.1;have wy:=nd;simp only[Tr.QJ,Zz,QX,YX]at wy;obtain⟨⟨nl,nr⟩,nd3⟩:=wy;have hlen:=Qhz (a:=a) (k:=k) O.len;obtain⟨sl,sr,_,_⟩:=Eg.1 (show Vc (l.list++it::r.list) from KZ);refine QQ func306 ntmps306 results306 λbase w pl hb=>?_;have Kx:=Qb h1;simp only[go_sem];apply QF hb O3;simp only[go_sem,Qe,h1,Kx];by_cases e1:it.ka=a/\it.ki=k
  .have d1:((it.ka:Int)==(a:Int)&&it.ki==k)=true:=by simp[e1.1,e1.2]
   simp only[go_sem,d1,Tr.Bj,Qd e1];refine YB hb hO hc (oC _) (hd _ (.node loc it l r) (i.app _) nd hs KZ (λe=>by cases e) (λ_ _ _ _ e=>by cases e;exact e1) λp hp=>⟨(QG (Qb (hB p hp).1)).trans (hB p hp).1,(hB p hp).2⟩) rfl λd h2 hR=>?_;obtain⟨s',rfl,u⟩:=hR;apply Qn hb;exact⟨s',rfl,u.under⟩
  have d1:((it.ka:Int)==(a:Int)&&it.ki==k)=false:=by
   rw[Xe];intro hh;simp only[Zy,jr]at hh;exact e1 ⟨ω,hh.2⟩
  simp only[go_sem,Qe,d1,Tr.Bj,Qc e1];apply ZQ hb QdS (Qev (i.app _).toR a k);apply Qn hb;by_cases e2:Ku it.ka it.ki a k
  .simp only[Qd e2];apply Vk [10] hb [0,1,2,3,4,5,6,7,8,9,11,12,1010,13,1014] [];simp only[go_sem,Qe,h1,Kx];refine xI hb RD rfl ?_ (RX O hN r _ (i.2.2.app _) (by simp only[Tr.QJ,Zz,JJ,QX]at nd ⊢;grind) (by simp only[Tr.size]at hs;omega) sr (λe=>dK (by rw[Tr.find,Qc e1,Qd e2];exact e)) λp hp=>⟨(QG (Qb (hB p hp).1)).trans (hB p hp).1,λhm=>(hB p hp).2 (by simp only[Tr.QJ,QD,QX];grind)⟩) rfl λd h6 hR=>?_
   .simp only[go_sem,RW]
   obtain⟨t',rfl,u⟩:=hR;have u:=u.under;have h7:h6[loc]? = _:=(u.keep loc Kx (by simp only[Tr.QJ,Zz,JJ,QX]at nd ⊢;grind)).trans h1;have El:=Qb h7;have ul:=u.list;have Ju:=Tr.Bg t';rw[ul]at Ju;have Jp:=hlen r;have nt:loc ∉ t'.QJ:=λhm=>by
    rcases u.mem loc hm with h9|h9
    .simp only[Tr.QJ,Zz,JJ,QX]at nd;grind
    .omega
   have no:∀k∈l.QJ,k ∉ t'.QJ:=λk hk hm=>by
    have Gq:=i.2.1.lt k hk;rcases u.mem k hm with h9|h9
    .simp only[Tr.QJ,Zz,JJ,QX]at nd;grind
    .omega
   have to:Vb h6 l:=i.2.1.frame λk hk=>u.keep k (i.2.1.lt k hk) (by simp only[Tr.QJ,Zz,JJ,QX]at nd ⊢;grind);apply ZH hb;simp only[go_sem,h7];apply Qn hb;refine YB hb nh rfl ?_ (oA (loc:=loc) (l:=l) (r:=t') ⟨QE El,to.set _ nl,u.is.set _ nt⟩ (by
    have a1:=u.nd;simp only[Tr.QJ,Zz,JJ,QX]at nd ⊢;grind) (by simp only[Tr.size]at hs;omega)) rfl λd h8 hR=>?_
   .simp only[go_sem]
   obtain⟨t'',rfl,v⟩:=hR;apply Qn hb;have vl:=v.list;refine⟨t'',rfl,v.is,by rw[vl,ul],v.nd,λk hk=>?_,λk hk hn=>?_,by have q1:=v.len;have q2:=u.len;simp only[Wu]at q1;omega⟩
   .rcases v.mem k hk with h9|h9
    .have a2:=u.mem k;simp only[Tr.QJ,QD,QX]at h9 ⊢;grind
    .have:=u.len;simp only[Wu]at h9;exact .inr ω
   .have a2:=u.mem k;have a3:=u.len;rw[v.keep k (by simp only[Wu];omega) (λh9=>by
     simp only[Tr.QJ,QD,QX]at h9 hn;rcases h9 with h9|h9|h9
     .exact hn (.inl h9)
     .exact hn (.inr (.inl h9))
     .rcases a2 h9 with qE|qE
      .exact hn (.inr (.inr qE))
      .omega),Qr (λh9=>hn (by rw[h9];simp[Tr.QJ])),u.keep k hk (λh9=>hn (by simp only[Tr.QJ,QD,QX];grind))]
  .simp only[Qc e2];apply Vk [10] hb [0,1,2,3,4,5,6,7,8,9,11,12,1010,13,1014] [];simp only[go_sem,Qe,h1,Kx];refine xI hb RD rfl ?_ (RX O hN l _ (i.2.1.app _) (by simp only[Tr.QJ,Zz,JJ,QX]at nd ⊢;grind) (by simp only[Tr.size]at hs;omega) sl (λe=>dK (by rw[Tr.find,Qc e1,Qc e2];exact e)) λp hp=>⟨(QG (Qb (hB p hp).1)).trans (hB p hp).1,λhm=>(hB p hp).2 (by simp only[Tr.QJ,QD,QX];grind)⟩) rfl λd h6 hR=>?_
   .simp only[go_sem,RW]
   obtain⟨t',rfl,u⟩:=hR;have u:=u.under;have h7:h6[loc]? = _:=(u.keep loc Kx (by simp only[Tr.QJ,Zz,JJ,QX]at nd ⊢;grind)).trans h1;have El:=Qb h7;have ul:=u.list;have Ju:=Tr.Bg t';rw[ul]at Ju;have Jp:=hlen l;have nt:loc ∉ t'.QJ:=λhm=>by
    rcases u.mem loc hm with h9|h9
    .simp only[Tr.QJ,Zz,JJ,QX]at nd;grind
    .omega
   have no:∀k∈r.QJ,k ∉ t'.QJ:=λk hk hm=>by
    have Gq:=i.2.2.lt k hk;rcases u.mem k hm with h9|h9
    .simp only[Tr.QJ,Zz,JJ,QX]at nd;grind
    .omega
   have to:Vb h6 r:=i.2.2.frame λk hk=>u.keep k (i.2.2.lt k hk) (by simp only[Tr.QJ,Zz,JJ,QX]at nd ⊢;grind);apply ZH hb;simp only[go_sem,h7];apply Qn hb;refine YB hb nh rfl ?_ (oA (loc:=loc) (l:=t') (r:=r) ⟨QE El,u.is.set _ nt,to.set _ nr⟩ (by
    have a1:=u.nd;simp only[Tr.QJ,Zz,JJ,QX]at nd ⊢;grind) (by simp only[Tr.size]at hs;omega)) rfl λd h8 hR=>?_
   .simp only[go_sem]
   obtain⟨t'',rfl,v⟩:=hR;apply Qn hb;have vl:=v.list;refine⟨t'',rfl,v.is,by rw[vl,ul],v.nd,λk hk=>?_,λk hk hn=>?_,by have q1:=v.len;have q2:=u.len;simp only[Wu]at q1;omega⟩
   .rcases v.mem k hk with h9|h9
    .have a2:=u.mem k;simp only[Tr.QJ,QD,QX]at h9 ⊢;grind
    .have:=u.len;simp only[Wu]at h9;exact .inr ω
   .have a2:=u.mem k;have a3:=u.len;rw[v.keep k (by simp only[Wu];omega) (λh9=>by
     simp only[Tr.QJ,QD,QX]at h9 hn;rcases h9 with h9|h9|h9
     .exact hn (.inl h9)
     .rcases a2 h9 with qE|qE
      .exact hn (.inr (.inl qE))
      .omega
     .exact hn (.inr (.inr h9))),Qr (λh9=>hn (by rw[h9];simp[Tr.QJ])),u.keep k hk (λh9=>hn (by simp only[Tr.QJ,QD,QX];grind))]
def wB(t:Tr):Ob:=⟨.one,0,1,1,λ_=>[t.ptr]⟩
attribute [go_sem] wB
def Qey{h:List Ob}{tl}{t:Tr}(ht:(h.map Ob.ro)[tl]? = some (wB t).ro)(i:zk h t)(a)(k):
  Q6 prog 305 h [.ptr tl 0 0 0,.agg [u64 a,Qa k]] (λd=>d=(t.find a k).ptr):=by
 refine xD func305 ntmps305 results305 λbase w pl F hF Q7 hb=>?_;rw[<- hF]at ht;have ZY:=Qb ht;simp only[go_sem,Qe,ht,ZY];refine Z3 (λj st=>∃s:Tr,s.size+j<=t.size/\zk h s/\s.find a k=t.find a k/\st=⟨[(3,.ptr F.length 0 0 0),(5,s.ptr)],F++[⟨.one,0,2,1,λ_=>[u64 a,Qa k]⟩]⟩) t.size (s0:=⟨[(3,.ptr F.length 0 0 0),(5,t.ptr)],F++[⟨.one,0,2,1,λ_=>[u64 a,Qa k]⟩]⟩) ?_ ⟨t,ω,i,rfl,rfl⟩ ?_
 .exact QM
 rintro j _ hj ⟨s,hs,is,hf,rfl⟩;cases s with
 | nil=>
  apply Qn hb;apply QF hb O3;simp only[go_sem,Go.undef];apply Qn hb;exact⟨_,rfl,by rw[<- hf];rfl⟩
 | node loc it l r=>
  have h3:=is.1;rw[<- hF]at h3;have KB:=Qb h3;apply Qn hb;apply QF hb O3;simp only[go_sem,Qe,h3,KB];rw[Tr.find]at hf;by_cases e1:it.ka=a/\it.ki=k
  .have d1:((it.ka:Int)==(a:Int)&&it.ki==k)=true:=by simp[e1.1,e1.2]
   rw[Qd e1]at hf;simp only[go_sem,d1];apply Qg hb;simp only[go_sem,KB];exact⟨_,rfl,by rw[<- hf];rfl⟩
  .have d1:((it.ka:Int)==(a:Int)&&it.ki==k)=false:=by
    rw[Xe];intro hh;simp only[Zy,jr]at hh;exact e1 ⟨ω,hh.2⟩
   rw[Qc e1]at hf;simp only[go_sem,d1];apply QF hb [0,1,2,4,5,1003,6,7,8];simp only[go_sem,Qe];apply Wz hb QdS (Qev (is.more (Gl hF)) a k);apply ZH hb;simp only[go_sem,Qe,h3,KB];have Ju:l.size+j+1<=t.size/\r.size+j+1<=t.size:=by simp only[Tr.size]at hs;omega
   by_cases e2:Ku it.ka it.ki a k
   .rw[Qd e2]at hf;simp only[go_sem,Qd e2];refine⟨ω,_,QM,r,ω,is.2.2,hf,rfl⟩
   .rw[Qc e2]at hf;simp only[go_sem,Qc e2];refine⟨ω,_,QM,l,ω,is.2.1,hf,rfl⟩
def QsD{h:List Ob}{lk lv}{x:It}(hk:h[lk]? = some ⟨.one,0,2,1,λ_=>[u64 x.ka,Qa x.ki]⟩)(hv:h[lv]? = some ⟨.one,0,2,1,λ_=>[u64 x.va,Qa x.vi]⟩)(s):
  QH prog 307 h [s.ptr,.ptr lk 0 0 0,.ptr lv 0 0 0] (λd h'=>∃s',d=s'.ptr/\zX h s [x] h' s'):=by
 refine QQ func307 ntmps307 results307 λbase w pl hb=>?_;have QEG:=Qb hk;have QEH:=Qb hv;simp only[go_sem,hk,hv];refine Zw hb Ce (Cr (loc:=h.length) (it:=x) (l:=.nil) (r:=.nil) (le:=⟨0,0,0,0⟩) (hi:=0) (n:=0) ⟨KV rfl,trivial,trivial⟩ (by simp[Tr.size]) (by simp[Tr.size]) (by simp[Tr.QJ]) (by simp[Tr.QJ])) λd h2 hR=>?_;apply Qn hb;refine⟨.node h.length x .nil .nil,rfl,⟨?_,trivial,trivial⟩,rfl,by simp[Tr.QJ],λl hl=>.inr (by simp[Tr.QJ]at hl;omega),λl hl _=>?_,by rw[hR];simp⟩
 .rw[hR,QE σ]
 .rw[hR,Qr ω,QG hl]
structure yQ (h:List Ob) (tl:Nat) (t:Tr) (L:List It):Prop where
 o:h[tl]? = some (wB t)
 is:Vb h t
 list:t.list=L
 nd:t.QJ.Nodup
 out:tl ∉ t.QJ
 sorted:Vc L
structure RY (h:List Ob) (tl:Nat) (t:Tr) (L:List It) (h':List Ob) (t':Tr):Prop where
 is:yQ h' tl t' L
 mem:∀l∈t'.QJ,l∈t.QJ\/h.length<=l
 keep:∀l,l<h.length->l≠tl->l ∉ t.QJ->h'[l]? = h[l]?
 len:h.length<=h'.length
def yQ.app{h}{tl}{t}{L}(a:yQ h tl t L)(g):yQ (h++g) tl t L:=⟨(QG (Qb a.o)).trans a.o,a.is.app g,a.list,a.nd,a.out,a.sorted⟩
def yQ.to{h g h2:List Ob}{tl}{t t'}{L L'}(a:yQ h tl t L)(u:zX (h++g) t L' h2 t')(hs:Vc L'):RY h tl t L' (h2.set tl (wB t')) t':=by
 have v:=u.under;have hl:=Qb a.o;have h1:h2[tl]? = some (wB t):=(v.keep tl hl a.out).trans a.o;have nt:tl ∉ t'.QJ:=λhm=>by
  rcases v.mem tl hm with h3|h3
  .exact a.out h3
  .omega
 exact⟨⟨QE (Qb h1),v.is.set _ nt,v.list,v.nd,nt,hs⟩,v.mem,λl h3 h4 h5=>by rw[Qr (Q3 h4)];exact v.keep l h3 h5,by rw[Wu];exact v.len⟩
def RZ{h}{tl}{t}{L:List It}(A:yQ h tl t L)(x:It)(hf:Yi x.ka x.ki L=none)(hs:L.length<600000):
  QH prog 281 h [.ptr tl 0 0 0,.agg [u64 x.ka,Qa x.ki],.agg [u64 x.va,Qa x.vi]] (λd h'=>d=Qa 0/\∃t',RY h tl t (XV x L) h' t'):=by
 have h1:=A.o;have hl:t.size=L.length:=by rw[<- Tr.Bg,A.list]
 have oF:(t.find x.ka x.ki)=.nil:=by
  have h2:=Tr.RO (a:=x.ka) (i:=x.ki) t (by rw[A.list];exact A.sorted);rw[A.list,hf]at h2;cases hc:t.find x.ka x.ki with
  | nil=>rfl
  | node a b c d=>rw[hc]at h2;cases h2
 have cf:=λg=>Qey (h:=h++g) (ZC (A.app g).o) (A.is.app g).toR x.ka x.ki;rw[oF]at cf;refine QQ func281 ntmps281 results281 λbase w pl hb=>?_;have Kx:=Qb h1;simp only[go_sem,Qe];apply ZQ hb QdM (cf _);apply Qn hb;apply Vk [7] hb [0,1,2,3,4,5,6,1007,8,9,1010] [];simp only[go_sem,Qe,h1,Kx];have O:oD (.clo 307 0 [.ptr h.length 0 0 0,.ptr (h.length+1) 0 0 0]) 307 0 [.ptr h.length 0 0 0,.ptr (h.length+1) 0 0 0] [(h.length,⟨.one,0,2,1,λ_=>[u64 x.ka,Qa x.ki]⟩),(h.length+1,⟨.one,0,2,1,λ_=>[u64 x.va,Qa x.vi]⟩)] x.ka x.ki (λ_=>[x]) 600000 True:=
  ⟨Qrf,rfl,λs=>σ,λh' s i2 wy Jv _ _ _ hB=>by
   have b1:=(hB (h.length,_) (J2 ..)).1;have b2:=(hB (h.length+1,_) (JR _ (J2 ..))).1;exact QsD (x:=x) b1 b2 s⟩
 refine jZ hb RD (RX O π t _ (A.is.app _) A.nd ω (by rw[A.list];exact A.sorted) (λ_=>trivial) ?_) λd h6 hR=>?_
 .intro p hp;have hm:∀q,h.length<=q->q ∉ t.QJ:=λq hq hm=>by have:=A.is.lt q hm;omega
  simp only[QD,Pm,or_false]at hp;rcases hp with rfl|rfl
  .exact⟨KV rfl,hm _ (QB _)⟩
  .exact⟨VD rfl,hm _ (by show h.length<=h.length+1;omega)⟩
 obtain⟨t',rfl,u⟩:=hR;rw[oc rfl t (by rw[A.list];exact A.sorted) (by rw[A.list];exact hf),A.list]at u;have h2:=(u.under.keep tl Kx A.out).trans A.o;have wx:=Qb h2;apply ZH hb;simp only[go_sem,h2];exact⟨t',A.to u (oa A.sorted hf)⟩
def Tr.QsE:∀t:Tr,t≠.nil->∃rest,t.list=t.Eh::rest:=λt h=>by
 have h1:=Tr.od t h;cases hl:t.list with
 | nil=>rw[hl]at h1;cases h1
 | cons a b=>rw[hl]at h1;simp only[List.head?_cons,QY]at h1;exact⟨b,by rw[h1]⟩
def QsF{x:It}{L}:Yi x.ka x.ki (x::L)=some x:=by
 unfold Yi;rw[jl,wu.2 ⟨rfl,rfl⟩]
def QsG{x:It}{L}(hs:Vc (x::L)):W9 x.ka x.ki (x::L)=L:=by
 have h:=Qep x.ka x.ki [] L x hs;rw[Qd ⟨rfl,rfl⟩]at h;exact h
def Qez(N:Nat):Prop:=∀(h:List Ob) (s:Tr),Vb h s->s.QJ.Nodup->s.size<=N->Vc s.list->s≠.nil ->
 QH prog 326 h [s.ptr] (λd h'=>∃s',d=s'.ptr/\zX h s s.Ip h' s')
def QeA{N}(W:Qez N)(a)(k):oD (.raw (.func (.func 326) #[] #[])) 326 0 [] [] a k Tr.Ip N False:=
 ⟨Qrq,rfl,λs=>by
  cases s with
  | nil=>simp[Tr.Ip]
  | node loc it l r=>simp only[Tr.Ip,ZW,Tr.Bg,Tr.size];omega,λh s i nd hs KZ hn _ _=>W h s i nd hs KZ λe=>hn e⟩
def QeB:∀N,N<600000->Qez N
 | 0,_,_,.nil,_,_,_,_,hn=>absurd rfl hn
 | 0,_,_,.node _ _ _ _,_,_,hs,_,_=>by simp only[Tr.size]at hs;omega
 | _+1,_,_,.nil,_,_,_,_,hn=>absurd rfl hn
 | N+1,hN,h,.node loc it l .nil,i,nd,hs,KZ,_=>by
  have h1:=i.1;refine QQ func326 ntmps326 results326 λbase w pl hb=>?_;have Kx:=Qb h1;simp only[go_sem,h1];refine⟨l,rfl,?_⟩;have u:=zX.refl i.2.1 (t:=l) (by simp only[Tr.QJ,Zz,JJ]at nd;exact nd.2.1);simp only[Tr.Ip,Tr.list,JI];exact⟨u.is,rfl,u.nd,λx hx=>.inl (by simp[Tr.QJ,hx]),λ_ _ _=>rfl,QB _⟩
 | N+1,hN,h,.node loc it l (.node lr ir rl rr),i,nd,hs,KZ,_=>by
  have h1:=i.1;refine QQ func326 ntmps326 results326 λbase w pl hb=>?_;have Kx:=Qb h1;simp only[go_sem,h1];have wy:=nd;simp only[Tr.QJ,Zz,JJ,QD,QX,YX]at wy;generalize hr:Tr.node lr ir rl rr=r at *;have hrn:r≠.nil:=by rw[<- hr];simp
  have hrp:D.ptr lr 0 0 0=r.ptr:=by rw[<- hr];rfl
  rw[hrp];refine Z3 (λj st=>∃s:Tr,s.size+j<=r.size/\s≠.nil/\Vb h s/\s.Eh=r.Eh/\(∀x∈s.QJ,x∈r.QJ)/\st=⟨[(0,.ptr loc 0 0 0),(3,s.ptr)],h⟩) r.size (s0:=⟨[(0,.ptr loc 0 0 0),(3,r.ptr)],h⟩) QM ⟨r,ω,hrn,i.2.2,rfl,λ_ hx=>hx,rfl⟩ ?_;rintro j _ hj ⟨s,zY,AL,is,hf,WH,rfl⟩;rcases s with _|⟨ls,im,sl,sr⟩
  .exact absurd rfl AL
  have h3:=is.1;have KB:=Qb h3;rcases sl with _|⟨a1,a2,a3,a4⟩
  .have qR:ls∈r.QJ:=WH ls (by simp[Tr.QJ]);have QA:loc≠ls:=by rintro rfl;simp only[Tr.QJ,Zz,JJ,QX]at nd;grind
   have nl:loc ∉ l.QJ:=by simp only[Tr.QJ,Zz,JJ,QX]at nd;grind
   have nr:loc ∉ r.QJ:=by simp only[Tr.QJ,Zz,JJ,QX]at nd;grind
   have ZU:=Qr (h:=h) (o:=Ef im l.ptr r.ptr (Tr.node loc it l r).least ((Tr.node loc it l r).high:Nat) ((Tr.node loc it l r).size:Nat)) QA;obtain⟨s1,s2,s3,s4⟩:=Eg.1 (show Vc (l.list++it::r.list) from KZ);obtain⟨rest,Kc⟩:=Tr.QsE r hrn;have Ir:r.Eh=im:=by rw[<- hf];rfl
   rw[Ir]at Kc;have oF:r.find im.ka im.ki=.nil->False:=λe=>by
    have h5:=Tr.RO (a:=im.ka) (i:=im.ki) r s2;rw[e,Kc,QsF]at h5;cases h5
   have ndr:r.QJ.Nodup:=by simp only[Tr.QJ,Zz,JJ,QX]at nd;grind
   apply Qg hb;simp only[go_sem,h3];apply Qg hb;simp only[go_sem,h1,h3];apply Vk [11] hb [0,1,2,3,4,5,6,7,8,9,10,12,13,1011,14,1015] [];simp only[go_sem,QE Kx,Qr QA,h3];refine xI hb RD rfl ?_ (RX (QeA (QeB N ω) im.ka im.ki) ω r _ (i.2.2.set _ nr) ndr (by simp only[Tr.size]at hs;omega) s2 oF (λp hp=>by cases hp)) rfl λd h6 hR=>?_
   .simp only[go_sem,RW]
   obtain⟨t',rfl,u⟩:=hR;rw[dF r s2,Kc,QsG (by rw[<- Kc];exact s2)]at u;have h7:=(u.keep loc (by simpa using Kx) nr).trans (QE Kx);have El:=Qb h7;have nt:loc ∉ t'.QJ:=λhm=>by
    rcases u.mem loc hm with h9|h9
    .exact nr h9
    .simp only[Wu]at h9;omega
   have no:∀k∈l.QJ,k ∉ t'.QJ:=λk hk hm=>by
    have Gq:=i.2.1.lt k hk;rcases u.mem k hm with h9|h9
    .simp only[Tr.QJ,Zz,JJ,QX]at nd;grind
    .simp only[Wu]at h9;omega
   have to:Vb h6 l:=(i.2.1.set _ nl).frame λk hk=>u.keep k (by simpa using i.2.1.lt k hk) (by simp only[Tr.QJ,Zz,JJ,QX]at nd ⊢;grind);apply ZH hb;simp only[go_sem,h7];apply Qn hb;have ul:=u.list;have Ju:=Tr.Bg t';rw[ul]at Ju;have XR:=Tr.Bg r;rw[Kc,Kv]at XR;refine YB hb nh rfl ?_ (oA (loc:=loc) (l:=l) (r:=t') (it:=im) ⟨QE El,to.set _ nl,u.is.set _ nt⟩ (by
    have a1:=u.nd;simp only[Tr.QJ,Zz,JJ,QX]at nd ⊢;grind) (by simp only[Tr.size]at hs;omega)) rfl λd h8 hR=>?_
   .simp only[go_sem]
   obtain⟨t'',rfl,v⟩:=hR;apply Qn hb;have vl:=v.list;refine⟨t'',rfl,v.is,by rw[vl,ul,Tr.Ip,Kc],v.nd,λk hk=>?_,λk hk hn=>?_,by have q1:=v.len;have q2:=u.len;simp only[Wu]at q1 q2;omega⟩
   .have q2:=u.len;rcases v.mem k hk with h9|h9
    .have a2:=u.mem k;simp only[Tr.QJ,QD,QX,Wu]at h9 a2 ⊢;grind
    .simp only[Wu]at h9 q2;exact .inr ω
   .have a2:=u.mem k;have a3:=u.len;simp only[Wu]at a2 a3;rw[v.keep k (by simp only[Wu];omega) (λh9=>by
     simp only[Tr.QJ,QD,QX]at h9 hn;rcases h9 with h9|h9|h9
     .exact hn (.inl h9)
     .exact hn (.inr (.inl h9))
     .rcases a2 h9 with qE|qE
      .exact hn (.inr (.inr qE))
      .omega),Qr (λh9=>hn (by rw[h9];simp[Tr.QJ])),u.keep k (by simpa using hk) (λh9=>hn (by simp only[Tr.QJ,QD,QX];grind)),Qr (λh9=>hn (by rw[h9];simp[Tr.QJ]))]
  .apply Qg hb;simp only[go_sem,h3];refine⟨by simp only[Tr.size]at zY;omega,_,QM,.node a1 a2 a3 a4,by simp only[Tr.size]at zY ⊢;omega,σ,is.2.1,by rw[<- hf];rfl,λx hx=>WH x (by rw[Tr.QJ];simp[hx]),rfl⟩
@[go_sem] def oG(o:Option It):D:=.tup [.agg (o.getD default).cells,QT o.isSome]
def oH{h}{tl}{t}{L:List It}(A:yQ h tl t L)(a)(k)(hf:Yi a k L≠none)(hs:L.length<500000):
  QH prog 304 h [.ptr tl 0 0 0,.agg [u64 a,Qa k]] (λd h'=>d=Qa 0/\∃t',RY h tl t (W9 a k L) h' t'):=by
 have h1:=A.o;have hl:t.size=L.length:=by rw[<- Tr.Bg,A.list]
 have h2:=Tr.RO (a:=a) (i:=k) t (by rw[A.list];exact A.sorted);rw[A.list]at h2;have cf:=λg=>Qey (h:=h++g) (ZC (A.app g).o) (A.is.app g).toR a k;cases hc:t.find a k with
 | nil=>rw[hc]at h2;exact absurd h2.symm hf
 | node b1 b2 b3 b4=>
  rw[hc]at cf;refine QQ func304 ntmps304 results304 λbase w pl hb=>?_;have Kx:=Qb h1;simp only[go_sem,Qe];apply ZQ hb QdM (cf _);apply Qn hb;apply Vk [6] hb [0,1,2,3,4,5,1006,7,8,1009] [];simp only[go_sem,Qe,h1,Kx];refine xI hb RD rfl ?_ (RX (QeA (QeB 500000 π) a k) π t _ (A.is.app _) A.nd ω (by rw[A.list];exact A.sorted) (λe=>by rw[hc]at e;cases e) (λp hp=>by cases hp)) rfl λd h6 hR=>?_
  .simp only[go_sem,RW]
  obtain⟨t',rfl,u⟩:=hR;rw[dF t (by rw[A.list];exact A.sorted),A.list]at u;have h2:=(u.under.keep tl Kx A.out).trans A.o;have wx:=Qb h2;apply ZH hb;simp only[go_sem,h2];exact⟨t',A.to u (Qsp A.sorted)⟩
section
variable {h:List Ob}{tl:Nat}{t:Tr}(ht:(h.map Ob.ro)[tl]? = some (wB t).ro)(i:zk h t)
include ht i
theorem QeD:Q6 prog 309 h [.ptr tl 0 0 0] (λd=>d=Qa t.size):=by
 refine xD func309 ntmps309 results309 λbase w pl F hF Q7 hb=>?_;rw[<- hF]at ht;have ZY:=Qb ht;simp only[go_sem,ht];apply ZQ hb DU (Ek (i.more λl o e=>by have:=Gl (g:=[]) hF l o e;rwa [JI]at this));apply Qn hb;exact⟨[],σ⟩
theorem QeE:Q6 prog 282 h [.ptr tl 0 0 0] (λd=>d=oG t.list.head?):=by
 have i2:∀{F:List Ob},F=h.map Ob.ro->∀g,zk (F++g) t:=λhF g=>i.more (Gl hF);have Cj:∀{F:List Ob},F=h.map Ob.ro->∀g,((F++g).map Ob.ro)[tl]? = some (wB t).ro:=λhF g=>Gl hF _ _ ht;by_cases hn:t=.nil
 .subst hn;refine xD func282 ntmps282 results282 λbase w pl F hF Q7 hb=>?_;rw[<- hF]at ht;have ZY:=Qb ht;simp only[go_sem];apply ZQ hb QdN (QeD (Cj hF _) (i2 hF _));apply Qg hb;simp only[go_sem,Qe,Tr.size];exact⟨_,rfl,rfl⟩
 .rw[Tr.od t hn];have Ju:t.size≠0:=by cases t with
   | nil=>exact absurd rfl hn
   | node a b c d=>simp only[Tr.size];omega
  have d0:((t.size:Int)==0)=false:=by simpa using Ju
  refine xD func282 ntmps282 results282 λbase w pl F hF Q7 hb=>?_;rw[<- hF]at ht;have ZY:=Qb ht;simp only[go_sem];apply ZQ hb QdN (QeD (Cj hF _) (i2 hF _));apply Qg hb;simp only[go_sem,Qe,ht,ZY,d0];refine Z3 (λj st=>∃s:Tr,s.size+j<=t.size/\s≠.nil/\zk h s/\s.Eh=t.Eh/\st=⟨[(2,.ptr F.length 0 0 0),(4,s.ptr)],F++[⟨.one,0,4,1,λ_=>[u64 0,Qa 0,u64 0,Qa 0]⟩]⟩) t.size (s0:=⟨[(2,.ptr F.length 0 0 0),(4,t.ptr)],F++[⟨.one,0,4,1,λ_=>[u64 0,Qa 0,u64 0,Qa 0]⟩]⟩) QM ⟨t,ω,hn,i,rfl,rfl⟩ ?_;rintro j _ hj ⟨s,zY,AL,is,hf,rfl⟩;rcases s with _|⟨ls,im,sl,sr⟩
  .exact absurd rfl AL
  have h3:=is.1;rw[<- hF]at h3;have KB:=Qb h3;rcases sl with _|⟨a1,a2,a3,a4⟩
  .apply Qg hb;simp only[go_sem,Qe,h3,KB];apply Qg hb;simp only[go_sem,Qe,h3,KB];rw[<- hf];exact⟨_,rfl,rfl⟩
  .apply Qg hb;simp only[go_sem,Qe,h3,KB];refine⟨by simp only[Tr.size]at zY;omega,_,QM,.node a1 a2 a3 a4,by simp only[Tr.size]at zY ⊢;omega,σ,is.2.1,by rw[<- hf];rfl,rfl⟩
omit ht i in
theorem QsJ{n loc}{it:It}{l r:Tr}(h:(Tr.node loc it l r).hasB n=true)(hl:l.hasB n=false)(hi:¬ it.va<=n):r.hasB n=true:=by
 rw[Tr.RP]at h ⊢;obtain⟨x,hx,hv⟩:=h;simp only[Tr.list,QX,QD]at hx;rcases hx with hx|rfl|hx
 .have:=(Tr.RP n l).2 ⟨x,hx,hv⟩;rw[hl]at this;cases this
 .exact absurd hv hi
 .exact⟨x,hx,hv⟩
theorem QsK(n):Q6 prog 311 h [.ptr tl 0 0 0,u64 n] (λd=>d=oG (t.list.find? λx=>decide (x.va<=n))):=by
 have i2:∀{F:List Ob},F=h.map Ob.ro->∀g,zk (F++g) t:=λhF g=>i.more (Gl hF);rw[<- Tr.dG];cases hB:t.hasB n with
 | false=>
  have ZP:t.first n=none:=by
   rw[Tr.dG,jm];intro x hx hv;have:=(Tr.RP n t).2 ⟨x,hx,by simpa using hv⟩;rw[hB]at this;cases this
  rw[ZP];refine xD func311 ntmps311 results311 λbase w pl F hF Q7 hb=>?_;rw[<- hF]at ht;have ZY:=Qb ht;simp only[go_sem,Qe,ht,ZY];apply ZQ hb QnN (ov (i2 hF _) n);apply Qg hb;simp only[go_sem,Qe,hB];exact⟨_,rfl,rfl⟩
 | true=>
  refine xD func311 ntmps311 results311 λbase w pl F hF Q7 hb=>?_;rw[<- hF]at ht;have ZY:=Qb ht;simp only[go_sem,Qe,ht,ZY];apply ZQ hb QnN (ov (i2 hF _) n);apply Qg hb;simp only[go_sem,Qe,ht,ZY,hB];have hn:t≠.nil:=by rintro rfl;simp[Tr.hasB]at hB
  refine Z3 (λj st=>∃s:Tr,s.size+j<=t.size/\s≠.nil/\zk h s/\s.hasB n=true/\s.first n=t.first n/\st=⟨[(1,u64 n),(4,.ptr F.length 0 0 0),(6,s.ptr)],F++[⟨.one,0,4,1,λ_=>[u64 0,Qa 0,u64 0,Qa 0]⟩]⟩) t.size (s0:=⟨[(1,u64 n),(4,.ptr F.length 0 0 0),(6,t.ptr)],F++[⟨.one,0,4,1,λ_=>[u64 0,Qa 0,u64 0,Qa 0]⟩]⟩) QM ⟨t,ω,hn,i,hB,rfl,rfl⟩ ?_;rintro j _ hj ⟨s,zY,AL,is,hsB,hf,rfl⟩;rcases s with _|⟨ls,im,sl,sr⟩
  .exact absurd rfl AL
  have h3:=is.1;rw[<- hF]at h3;have KB:=Qb h3;rw[Tr.first]at hf;apply Qg hb;simp only[go_sem,Qe,h3,KB];apply ZQ hb QnN (ov (is.2.1.more (Gl hF)) n);apply Qn hb;cases hL:sl.hasB n with
  | true=>
   rw[hL,Qd rfl]at hf;simp only[go_sem,Qe,h3,KB];refine⟨by simp only[Tr.size]at zY;omega,_,QM,sl,by simp only[Tr.size]at zY;omega,by rintro rfl;simp[Tr.hasB]at hL,is.2.1,hL,hf,rfl⟩
  | false=>
   rw[hL,Qc π]at hf;simp only[go_sem,Qe,h3,KB];by_cases hv:im.va<=n
   .have d1:=QU hv;rw[Qd hv]at hf;simp only[go_sem,Qe,d1,h3,KB];rw[<- hf];exact⟨_,rfl,rfl⟩
   .have d1:=QI hv;rw[Qc hv]at hf;simp only[go_sem,Qe,d1,h3,KB];have hR:=QsJ hsB hL hv;refine⟨by simp only[Tr.size]at zY;omega,_,QM,sr,by simp only[Tr.size]at zY;omega,by rintro rfl;simp[Tr.hasB]at hR,is.2.2,hR,hf,rfl⟩
end
@[go_sem] def oI(o:Option It):Ob:=⟨.one,0,4,1,λ_=>(o.getD default).cells⟩
@[go_sem] def oJ(o:Option It):Ob:=⟨.one,0,1,1,λ_=>[QT o.isSome]⟩
def QsM(x):zW x x=x:=by rw[Qej,Qc (RN x)]
def QeF{h:List Ob}{lm lo}{o}(hm:h[lm]? = some (oJ o))(ho:h[lo]? = some (oI o))(QA:lm≠lo)(x):
  QH prog 297 h [.agg x.cells,.ptr lm 0 0 0,.ptr lo 0 0 0] (λ_ h'=>∃g,h'=(h.set lm (oJ (vg o x))).set lo (oI (vg o x))++g):=by
 have jY:=Q3 QA;cases o with
 | none=>
  have cb:=NG x x;rw[QsM]at cb;refine QQ func297 ntmps297 results297 λbase w pl hb=>?_;have Zg:=Qb hm;have Ql:=Qb ho;simp only[go_sem,Qe,hm,Zg,ho,Ql,Qr QA,Qr jY,xh,za,KR,Option.getD_none,vg,QE Ql];apply ZK hb Nq cb;apply Qg hb;simp only[go_sem,Qe,Ql,Qr QA,QE Ql];rw[List.set_comm _ _ jY,JK];exact⟨_,rfl⟩
 | some y=>
  have cb:=NG y x;refine QQ func297 ntmps297 results297 λbase w pl hb=>?_;have Zg:=Qb hm;have Ql:=Qb ho;simp only[go_sem,Qe,hm,Zg,ho,Ql,Qr QA,za,KR,vg];apply ZK hb Nq cb;apply Qg hb;simp only[go_sem,Qe,ho,Ql,Qr QA,KR];exact⟨_,rfl⟩
def Tr.QsN(n loc)(it:It)(l r:Tr)(o):(Tr.node loc it l r).Yj n o=if n<it.ka then l.Yj n o else r.Yj n (match l with
  | .nil=>vg o it
  | .node a b c d=>vg (vg o it) (Tr.node a b c d).least):=by cases l<;>rfl
def yR(F g:List Ob)(n:Nat)(s:Tr)(o:Option It):St:=
 ⟨[(1,u64 n),(4,.ptr F.length 0 0 0),(6,.ptr (F.length+1) 0 0 0),(7,.ptr (F.length+2) 0 0 0),(8,.clo 297 0 [.ptr (F.length+2) 0 0 0,.ptr (F.length+1) 0 0 0]),(9,s.ptr)],
  F++(⟨.one,0,4,1,λ_=>[u64 0,Qa 0,u64 0,Qa 0]⟩::oI o::oJ o::g)⟩
section
variable {h:List Ob}{tl:Nat}{t:Tr}(ht:(h.map Ob.ro)[tl]? = some (wB t).ro)(i:zk h t)
include ht i
theorem QeG(n):Q6 prog 250 h [.ptr tl 0 0 0,u64 n] (λd=>d=oG (t.Yj n none)):=by
 refine xD func250 ntmps250 results250 λbase w pl F hF Q7 hb=>?_;rw[<- hF]at ht;have ZY:=Qb ht;simp only[go_sem,Qe,ht,ZY];refine Z3 (λj st=>∃(s:Tr) (o:Option It) (g:List Ob),s.size+j<=t.size/\zk h s/\s.Yj n o=t.Yj n none/\st=yR F g n s o) t.size (s0:=yR F [] n t none) ?_ ⟨t,none,[],ω,i,rfl,rfl⟩ ?_
 .simp only[yR];exact QM
 rintro j _ hj ⟨s,o,g,zY,is,hf,rfl⟩;rcases s with _|⟨ls,im,sl,sr⟩
 .simp only[yR];apply Qn hb;apply Qn hb;apply Vk [] hb [0] [1,2,3];simp only[go_sem,Qe];have zg:o=t.Yj n none:=hf;subst zg;refine⟨⟨_,rfl,rfl⟩,⟨_,rfl,rfl⟩⟩
 have h3:=is.1;rw[<- hF]at h3;have KB:=Qb h3;rw[Tr.QsN]at hf;by_cases hv:n<im.ka
 .have d1:=QU hv;rw[Qd hv]at hf;simp only[yR];apply Qg hb;simp only[go_sem,Qe,h3,KB,d1];refine⟨by simp only[Tr.size]at zY;omega,yR F g n sl o,?_,sl,o,g,by simp only[Tr.size]at zY;omega,is.2.1,hf,rfl⟩;simp only[yR];exact QM
 .have d1:=QI hv;rw[Qc hv]at hf;simp only[yR];apply Qg hb;simp only[go_sem,Qe,h3,KB,d1];refine Zw hb QdK (QeF (lm:=F.length+2) (lo:=F.length+1) (o:=o) (VD rfl) (VD rfl) ω im) λd h6 hR=>?_;obtain⟨g2,rfl⟩:=hR;simp only[go_sem,Qe];cases sl with
  | nil=>
   apply Qg hb;simp only[go_sem,Qe,h3,KB];refine⟨by simp only[Tr.size]at zY;omega,yR F (g++g2) n sr (vg o im),?_,sr,_,_,by simp only[Tr.size]at zY;omega,is.2.2,hf,rfl⟩;simp only[yR];exact QM
  | node a b c e=>
   have h4:=is.2.1.1;rw[<- hF]at h4;have oB:=Qb h4;apply Qg hb;simp only[go_sem,Qe,h3,KB,h4,oB];refine Zw hb QdK (QeF (lm:=F.length+2) (lo:=F.length+1) (o:=vg o im) (VD rfl) (VD rfl) ω (Tr.node a b c e).least) λd h6 hR=>?_;obtain⟨g3,rfl⟩:=hR;simp only[go_sem,Qe];apply Qg hb;simp only[go_sem,Qe,h3,KB];refine⟨by simp only[Tr.size]at zY;omega,yR F (g++(g2++g3)) n sr (vg (vg o im) (Tr.node a b c e).least),?_,sr,_,_,by simp only[Tr.size]at zY;omega,is.2.2,hf,rfl⟩;simp only[yR];exact QM
end
def Xp(e:Zt):Int × D:=(e.k,e.v)
structure XW (es:List Zt) (P:List (Int × D)):Prop where
 perm:(es.map Xp).Perm P
 nd:(P.map Prod.fst).Nodup
def XW.Bc{es}{P}(M:XW es P):XA es:=by
 have h1:es.map (·.k)=(es.map Xp).map Prod.fst:=by simp[Xp,Uj]
 unfold XA;rw[h1,(M.perm.map Prod.fst).nodup_iff];exact M.nd
def oK:∀{es:List Zt},XA es->∀{k:Int} {v:D},ZL es k=some v↔(k,v)∈es.map Xp
 | [],_,k,v=>by simp[ZL]
 | e::es,hn,k,v=>by
  have KO:XA es:=by unfold XA at hn ⊢;simp only[JQ,Zz]at hn;exact hn.2
  simp only[ZL];by_cases h:e.k=k
  .rw[Qd h];constructor
   .rintro⟨rfl⟩;simp[Xp,h]
   .intro hm;simp only[JQ,QD]at hm;rcases hm with hm|hm
    .simp only[Xp,Q9]at hm;rw[hm.2]
    .exfalso;obtain⟨e',WS,hh⟩:=Z2.1 hm;simp only[Xp,Q9]at hh;unfold XA at hn;simp only[JQ,Zz,Z2,Dm,not_and]at hn;exact hn.1 e' WS (by rw[hh.1,h])
  .rw[Qc h,oK KO];simp only[JQ,QD];constructor
   .exact λh=>.inr h
   .rintro (hm|hm)
    .simp only[Xp,Q9]at hm;exact absurd hm.1.symm h
    .exact hm
def look(P:List (Int × D))(k:Int):Option D:=(P.find? λp=>p.1==k).map Prod.snd
def dL:∀{P:List (Int × D)},(P.map Prod.fst).Nodup->∀{k:Int} {v:D},look P k=some v↔(k,v)∈P
 | [],_,k,v=>by simp[look]
 | p::P,hn,k,v=>by
  simp only[JQ,Zz]at hn;have ih:=dL hn.2 (k:=k) (v:=v);unfold look at ih ⊢;rw[jl];by_cases h:p.1=k
  .rw[jr.2 h];simp only[KK,QY,QD];constructor
   .rintro rfl;exact .inl (by rw[<- h])
   .rintro (hm|hm)
    .rw[<- hm]
    .exact absurd (Z2.2 ⟨_,hm,rfl⟩) (by rw[<- h];exact hn.1)
  .have hb:(p.1==k)=false:=by simpa using h
   rw[hb,ih,QD];constructor
   .exact λh=>.inr h
   .rintro (hm|hm)
    .exact absurd (by rw[<- hm]) h
    .exact hm
def XW.look{es}{P}(M:XW es P)(k):ZL es k=look P k:=by
 cases hf:X.look P k with
 | some v=>
  rw[oK M.Bc,M.perm.mem_iff];exact(dL M.nd).1 hf
 | none=>
  cases ha:ZL es k with
  | none=>rfl
  | some v=>
   rw[oK M.Bc,M.perm.mem_iff]at ha;rw[(dL M.nd).2 ha]at hf;cases hf
def XW.len{es:List Zt}{P:List (Int × D)}(M:XW es P):es.length=P.length:=by
 have:=M.perm.length_eq;rwa [J1]at this
def Bl(P:List (Int × D))(k:Int):List (Int × D):=P.filter λp=>p.1 != k
def Em(P:List (Int × D))(k:Int)(v:D):List (Int × D):=(k,v)::Bl P k
def QeH{P:List (Int × D)}(k:Int)(h:(P.map Prod.fst).Nodup):((Bl P k).map Prod.fst).Nodup:=by
 unfold Bl;exact List.Nodup.sublist (List.Sublist.map _ List.filter_sublist) h
def QeI{P:List (Int × D)}(k)(v:D)(h:(P.map Prod.fst).Nodup):((Em P k v).map Prod.fst).Nodup:=by
 rw[Em,JQ,Zz];refine⟨λhm=>?_,QeH k h⟩;obtain⟨p,hp,e⟩:=Z2.1 hm;simp only[Bl,Jt,bne_iff_ne,ne_eq]at hp;exact hp.2 e
def QeJ:∀{es:List Zt} (k:Int) (v:D),XA es->(∃u,ZL es k=some u)->((zR es k v).map Xp).Perm ((k,v)::(es.map Xp).filter λp=>p.1 != k)
 | [],k,v,_,h=>by obtain⟨u,hu⟩:=h;cases hu
 | e::es,k,v,hn,h=>by
  have KO:XA es/\∀e'∈es,e'.k≠e.k:=by
   unfold XA at hn ⊢;simp only[JQ,Zz,Z2,Dm,not_and]at hn;exact⟨hn.2,hn.1⟩
  simp only[zR];by_cases he:e.k=k
  .rw[Qd he,JQ,JQ];have h1:(Xp e).1=k:=he;rw[vI,show ((Xp e).1 != k)=false by rw[h1];simp];simp only[q7,vN];rw[yi.2]
   .exact O8 _
   .intro p hp;obtain⟨e',WS,rfl⟩:=Z2.1 hp;have:=KO.2 e' WS;simpa[Xp,<- he] using this
  .rw[Qc he,JQ,JQ,vI];have h1:((Xp e).1 != k)=true:=by simpa[Xp] using he
   rw[h1,Qd rfl];have h2:∃u,ZL es k=some u:=by
    obtain⟨u,hu⟩:=h;simp only[ZL,Qc he]at hu;exact⟨u,hu⟩
   exact(List.Perm.cons _ (QeJ k v KO.1 h2)).trans (List.Perm.swap _ _ _)
def XW.set{es}{P}(M:XW es P)(q)(c)(k)(v):∃c' es',JZ q c es k v=QK q c' es'/\XW es' (Em P k v):=by
 unfold JZ;cases ha:ZL es k with
 | some u=>
  refine⟨c,zR es k v,rfl,?_,QeI k v M.nd⟩;exact(QeJ k v M.Bc ⟨u,ha⟩).trans (List.Perm.cons _ (M.perm.filter _))
 | none=>
  refine⟨c+1,es++[⟨k,v,c⟩],rfl,?_,QeI k v M.nd⟩;rw[vK,Em];have hd:Bl P k=P:=by
   unfold Bl;rw[yi];intro p hp;rw[bne_iff_ne];intro e;have:=(dL M.nd (k:=k) (v:=p.2)).2 (by rw[<- e];exact hp);rw[<- M.look,ha]at this;cases this
  rw[hd];exact(List.perm_append_comm.trans (List.Perm.cons _ M.perm))
def QeK:∀{es:List Zt} (k:Int),XA es->((JS es k).map Xp)=((es.map Xp).filter λp=>p.1 != k)
 | [],_,_=>rfl
 | e::es,k,hn=>by
  have KO:XA es/\∀e'∈es,e'.k≠e.k:=by
   unfold XA at hn ⊢;simp only[JQ,Zz,Z2,Dm,not_and]at hn;exact⟨hn.2,hn.1⟩
  simp only[JS];by_cases he:e.k=k
  .rw[Qd he,JQ,vI,show ((Xp e).1 != k)=false by simpa[Xp] using he];simp only[q7,vN];rw[yi.2];intro p hp;obtain⟨e',WS,rfl⟩:=Z2.1 hp;have:=KO.2 e' WS;simpa[Xp,<- he] using this
  .rw[Qc he,JQ,JQ,vI,show ((Xp e).1 != k)=true by simpa[Xp] using he,Qd rfl,QeK k KO.1]
def XW.del{es}{P}(M:XW es P)(k):XW (JS es k) (Bl P k):=by
 refine⟨?_,QeH k M.nd⟩;rw[QeK k M.Bc];exact M.perm.filter _
def XW.nil:XW [] []:=⟨σ,σ⟩
def XW.to{es}{P Q:List (Int × D)}(M:XW es P)(h:P.Perm Q):XW es Q:=⟨M.perm.trans h,((h.map Prod.fst).nodup_iff).1 M.nd⟩
structure Step (S:Nat->Prop) (h h':List Ob):Prop where
 keep:∀l,l<h.length->¬ S l->h'[l]? = h[l]?
 len:h.length<=h'.length
def more(S:Nat->Prop)(h:List Ob):Nat->Prop:=λl=>S l\/h.length<=l
def Step.trans{S}{h h' Yt}(a:Step S h h')(b:Step (more S h) h' Yt):Step S h Yt:=
 ⟨λl hl hn=>by rw[b.keep l (kG hl a.len) (λh1=>h1.elim hn ω),a.keep l hl hn],Ki a.len b.len⟩
def Step.app(S)(h g):Step S h (h++g):=⟨λl hl _=>QG hl,σ⟩
structure KW (es:List Zt) (f:Int->Option D):Prop where
 nd:XA es
 at_:∀k,ZL es k=f k
section
variable {es:List Zt}{f:Int->Option D}
def KW.p(M:KW es f):XW es (es.map Xp):=⟨O8 _,by
 have h1:(es.map Xp).map Prod.fst=es.map (·.k):=by simp[Xp,Uj]
 rw[h1];exact M.nd⟩
def KW.to{g}(M:KW es f)(h:∀k,f k=g k):KW es g:=⟨M.nd,λk=>(M.at_ k).trans (h k)⟩
def QeL(P)(k j):look (Bl P k) j=if j=k then none else look P j:=by
 unfold look Bl;rw[List.find?_filter];by_cases h:j=k
 .subst h;rw[Qd rfl,Uy,jm];intro p _ hp;simp at hp
 .rw[Qc h];congr 2;funext p;by_cases h2:p.1=j
  .simp[h2,h]
  .simp[h2]
def QsO(P)(k)(v)(j):look (Em P k v) j=if j=k then some v else look P j:=by
 have h0:=QeL P k j;unfold look at h0 ⊢;unfold Em;rw[jl];by_cases h:j=k
 .subst h;simp
 .have hb:((k,v).1==j)=false:=by simpa using Q3 h
  rw[hb,Qc h];rw[Qc h]at h0;exact h0
def KW.set(M:KW es f)(q)(c)(k)(v):∃c' es',JZ q c es k v=QK q c' es'/\KW es' (λj=>if j=k then some v else f j):=by
 obtain⟨c',es',h1,h2⟩:=M.p.set q c k v;refine⟨c',es',h1,h2.Bc,λj=>?_⟩;rw[h2.look,QsO];split
 .rfl
 .rw[<- M.p.look,M.at_]
def KW.del(M:KW es f)(k):KW (JS es k) (λj=>if j=k then none else f j):=by
 have h2:=M.p.del k;refine⟨h2.Bc,λj=>?_⟩;rw[h2.look,QeL];split
 .rfl
 .rw[<- M.p.look,M.at_]
def KW.nil:KW [] (λ_=>none):=⟨by simp[XA],λ_=>rfl⟩
def KW.QeM(M:KW es f):es.length=0↔∀k,f k=none:=by
 constructor
 .intro h k;rw[Di]at h;rw[<- M.at_,h];rfl
 .intro h;cases es with
  | nil=>rfl
  | cons e es=>
   have h1:=M.at_ e.k;rw[h,ZL,Qd rfl]at h1;cases h1
end
def Is(b:Bool):Int:=if b then 1 else 0
def vj(T:List Qq)(k:Int):Option D:=match Qx T k with
 | some c=>if 1<QR c.ls then some (.agg [Qa c.parent,Qa (Is c.leaf)]) else none
 | none=>none
def yS(T:List Qq)(A:List Int)(k:Int):Option D:=if k∈A then some (Qa ((Qx T k).getD default).parent) else none
def Ct(kl:Int->Option Nat)(k:Int):Option D:=(kl k).map λl=>.mref l 0
def xJ(f:Int->Bool)(i:Int):Option D:=if f i then some (Qa 1) else none
@[go_sem] def dM(b1 b2 b3:Nat):Ob:=⟨.one,0,3,1,λ_=>[.mref b1 0,.mref b2 0,.mref b3 0]⟩
structure zl (S:Nat->Prop) (h:List Ob) (p b1 b2 b3 c1 c2 c3:Nat) (Zx Z1 KP:List Zt) (kl:Int->Option Nat) (T:List Qq) (A:List Int) (Kd:Int->Int->Bool):Prop where
 o:h[p]? = some (dM b1 b2 b3)
 m1:h[b1]? = some (QK .i64 c1 Zx)
 f1:KW Zx (vj T)
 m2:h[b2]? = some (QK .i64 c2 Z1)
 f2:KW Z1 (yS T A)
 m3:h[b3]? = some (QK .i64 c3 KP)
 f3:KW KP (Ct kl)
 ks:∀k l,kl k=some l->∃c es,h[l]? = some (QK .i64 c es)/\KW es (xJ (Kd k))
 kn:∀k i,kl k=none->Kd k i=false
 ki:∀k k' l,kl k=some l->kl k'=some l->k=k'
 R0:b1≠b2
 R3:b1≠b3
 NH:b2≠b3
 dN:p≠b1
 R4:p≠b2
 Eo:p≠b3
 nk:∀k l,kl k=some l->l≠p/\l≠b1/\l≠b2/\l≠b3
 sp:S p
 s1:S b1
 s2:S b2
 s3:S b3
 sk:∀k l,kl k=some l->S l
def zn(S:Nat->Prop)(h:List Ob)(p:Nat)(T:List Qq)(A:List Int):Prop:=∃b1 b2 b3 c1 c2 c3 Zx Z1 KP kl,zl S h p b1 b2 b3 c1 c2 c3 Zx Z1 KP kl T A (qO T A)
def zl.step{S S'}{h h'}{p b1 b2 b3 c1 c2 c3}{Zx Z1 KP}{kl}{T}{A}{Kd}
  (e:∀l,l<h.length->S l->S' l/\h'[l]? = h[l]?) (T0:zl S h p b1 b2 b3 c1 c2 c3 Zx Z1 KP kl T A Kd):zl S' h' p b1 b2 b3 c1 c2 c3 Zx Z1 KP kl T A Kd:=by
 have k:∀l o,S l->h[l]? = some o->S' l/\h'[l]? = some o:=λl o h1 h2=>⟨(e l (Qb h2) h1).1,(e l (Qb h2) h1).2.trans h2⟩;refine⟨(k _ _ T0.sp T0.o).2,(k _ _ T0.s1 T0.m1).2,T0.f1,(k _ _ T0.s2 T0.m2).2,T0.f2,(k _ _ T0.s3 T0.m3).2,T0.f3,λq l hl=>?_,T0.kn,T0.ki,T0.R0,T0.R3,T0.NH,T0.dN,T0.R4,T0.Eo,T0.nk,(k _ _ T0.sp T0.o).1,(k _ _ T0.s1 T0.m1).1,(k _ _ T0.s2 T0.m2).1,(k _ _ T0.s3 T0.m3).1,λq l hl=>?_⟩
 .obtain⟨c,es,h1,h2⟩:=T0.ks q l hl;exact⟨c,es,(k _ _ (T0.sk q l hl) h1).2,h2⟩
 .obtain⟨c,es,h1,h2⟩:=T0.ks q l hl;exact(k _ _ (T0.sk q l hl) h1).1
def zn.step{S S'}{h h':List Ob}{p}{T}{A}(e:∀l,l<h.length->S l->S' l/\h'[l]? = h[l]?):zn S h p T A->zn S' h' p T A:=
 λ⟨b1,b2,b3,c1,c2,c3,Zx,Z1,KP,kl,O⟩=>⟨b1,b2,b3,c1,c2,c3,Zx,Z1,KP,kl,O.step e⟩
structure QsP (h:List Ob) (p b1 b2 b3 c1 c2 c3:Nat) (Zx Z1 KP:List Zt) (kl:Int->Option Nat) (T:List Qq) (A:List Int) (Kd:Int->Int->Bool):Prop where
 o:(h.map Ob.ro)[p]? = some (dM b1 b2 b3).ro
 m1:(h.map Ob.ro)[b1]? = some (QK .i64 c1 Zx).ro
 f1:KW Zx (vj T)
 m2:(h.map Ob.ro)[b2]? = some (QK .i64 c2 Z1).ro
 f2:KW Z1 (yS T A)
 m3:(h.map Ob.ro)[b3]? = some (QK .i64 c3 KP).ro
 f3:KW KP (Ct kl)
 ks:∀k l,kl k=some l->∃c es,(h.map Ob.ro)[l]? = some (QK .i64 c es).ro/\KW es (xJ (Kd k))
 kn:∀k i,kl k=none->Kd k i=false
def Gr(h:List Ob)(p:Nat)(T:List Qq)(A:List Int):Prop:=∃b1 b2 b3 c1 c2 c3 Zx Z1 KP kl,QsP h p b1 b2 b3 c1 c2 c3 Zx Z1 KP kl T A (qO T A)
def zn.toR{S}{h}{p}{T}{A}:zn S h p T A->Gr h p T A:=
 λ⟨b1,b2,b3,c1,c2,c3,Zx,Z1,KP,kl,O⟩=>⟨b1,b2,b3,c1,c2,c3,Zx,Z1,KP,kl,ZC O.o,ZC O.m1,O.f1,ZC O.m2,O.f2,ZC O.m3,O.f3,λk l hl=>by
  obtain⟨c,es,h1,h2⟩:=O.ks k l hl;exact⟨c,es,ZC h1,h2⟩,O.kn⟩
def Gr.more{h h':List Ob}{p}{T}{A}(e:∀(l:Nat) (o:Ob),(h.map Ob.ro)[l]? = some o->(h'.map Ob.ro)[l]? = some o):Gr h p T A->Gr h' p T A:=
 λ⟨b1,b2,b3,c1,c2,c3,Zx,Z1,KP,kl,O⟩=>⟨b1,b2,b3,c1,c2,c3,Zx,Z1,KP,kl,e _ _ O.o,e _ _ O.m1,O.f1,e _ _ O.m2,O.f2,e _ _ O.m3,O.f3,λk l hl=>by
  obtain⟨c,es,h1,h2⟩:=O.ks k l hl;exact⟨c,es,e _ _ h1,h2⟩,O.kn⟩
def QsQ{T}(I:JG T){A}(hA:xG T A)(id)(h0:id≠0):(id∈A\/∃i,qO T A id i=true)↔Ja T A id=true:=by
 constructor
 .rintro (h|⟨i,hi⟩)
  .obtain⟨c,h1,h2,h3⟩:=hA id h;exact XU.2 ⟨id,h,Xo I h1⟩
  .obtain⟨c,h1,h2,h3⟩:=wo.1 hi;obtain⟨d,hd,_⟩:=I.J8 c (xF I h1) (by rw[h2];exact h0);rw[h2]at hd;exact Ii I h3 (by rw[Km I h1,h2];exact JR _ (Xo I hd))
 .intro h;obtain⟨a,ha,hi⟩:=XU.1 h;by_cases QA:a=id
  .subst QA;exact .inl ha
  .obtain⟨i,c,h1,h2,h3⟩:=dB I hi QA;exact .inr ⟨i,wo.2 ⟨c,h2,h3,XU.2 ⟨a,ha,h1⟩⟩⟩
end Go.Fg.X
namespace Go.Fg.X
open Go.Proofs Go.Fg
open Go.RowKit (Below)
open Go.Proofs.Tryz
def QeN{P}{f}{h}{args}{R}(d2:D)(hu:∀k,d2.upto k=true)
  (hd:∀d g,R d g->Ke 6 d d2\/∃lo gn sz n row,h.length<=lo/\(h++g)[lo]? = some ⟨.arr,gn,sz,n,row⟩/\(∀i,i<n->(row i).all D.qI=true)/\Ke 6 (D.fz lo gn n sz row d) d2) (H:Wy P f h args R):Q6 P f h args (λd=>d=d2):=by
 intro Z base w pl vs h1 h2 h3 hl hc;have Rv:Zi Z w.heap.size (h.map Ob.ro) pl w:=by
  refine⟨h3.len,h3.inj,h3.VB,λl o b q ho hp=>⟨λhr=>?_,(h3.at_ l o b q ho hp).2⟩⟩;obtain⟨o',_,rfl⟩:=F7 ho;rw[U9,Kd.toRo_ro]at hr;cases hr
 refine(H Z w.heap.size w pl vs (QB _) h2 Rv hl hc).mono λe w' he=>?_;obtain⟨v,d,_,Qi,rfl,⟨g,rfl,hR⟩,hO,hV,hT,hB⟩:=he;have hE:∀b,b<w.heap.size->w'.heap[b]? = w.heap[b]? := λb hb=>hB.block b hb;have Zh:∀(l:Nat),l<h.length->Qi[l]? = pl[l]? := λl hl=>by
  have Jp:l<pl.length:=by rw[h3.len];simpa using hl
  obtain⟨o',p',m1,m2,_,_,m3⟩:=hT.obj l _ _ (ZC (QP hl)) (QP Jp);rw[JC (by simpa using hl),ZC (QP hl)]at m1;cases m1;obtain⟨_,rfl⟩:=m3 rfl;rw[m2,QP Jp]
 have e1:(h.map Ob.ro++g).take h.length=h.map Ob.ro:=List.take_left' σ;have dO:QC Z (h.map Ob.ro) pl w' d2 v->_:=λhx=>(⟨v,d2,h.map Ob.ro,pl,rfl,⟨[],(JI _).symm,hu _,rfl⟩,h3.ext hE,hx,Go.Fg.Tr.ext h3 hE,hB.mono h1⟩:∃v' d h' Qi,Ending.returned v=.returned v'/\(∃g,h'=h.map Ob.ro++g/\d.upto h.length=true/\d=d2)/\Zi Z base h' Qi w'/\QC Z h' Qi w' d v'/\Go.Fg.Tr (h.map Ob.ro) pl w h' Qi w'/\Below base w w');refine dO ?_;rcases hd _ _ hR with hle|⟨lo,gn,sz,n,row,QeO,Zq,Z7,hle⟩
 .have r:=(v8 6 hle hV).take (hu h.length);have e2:Qi.take h.length=pl:=by
   apply wY;intro i;rw[Xw];by_cases hi:i<h.length
   .rw[Qd hi,Zh i hi]
   .rw[Qc hi,Ar (by rw[h3.len];simp;omega)]
  rw[e1,e2]at r;exact r
 have wC:(h.map Ob.ro++g)[lo]? = some ⟨.arr,gn,sz,n,row⟩:=by
  rw[Kb ω]at Zq;rw[Kb (by simpa using QeO)];simpa using Zq
 have Qb:lo<Qi.length:=by rw[hO.len];exact(WC.1 wC).1
 obtain⟨p,hp⟩:∃p,Qi[lo]? = some p:=⟨_,QP Qb⟩;have Cu:=hV.fz (l:=lo) (o:=⟨.arr,gn,sz,n,row⟩) (p:=p) wC hp rfl (λb q e=>by
  subst e;refine⟨h2 b ?_,λl' q' e'=>hO.inj _ _ _ _ _ e' hp,(hO.at_ lo _ b q wC hp).2.cells rfl⟩;exact(hO.at_ lo _ b q wC hp).1 rfl) Z7 (h':=(h.map Ob.ro++g).set lo (Ob.gone ⟨.arr,gn,sz,n,row⟩)) (λl' o' QA e=>by
  exact⟨o',by rw[Jw (Q3 QA)];exact e,rfl,rfl,rfl⟩)
 have r:=(v8 6 hle Cu).take (hu h.length);have e3:((h.map Ob.ro++g).set lo (Ob.gone ⟨.arr,gn,sz,n,row⟩)).take h.length=h.map Ob.ro:=by
  rw[Hg _ _ (by simpa using QeO)];exact List.take_left' σ
 have e2:(Qi.set lo none).take h.length=pl:=by
  apply wY;intro i;rw[Xw];by_cases hi:i<h.length
  .rw[Qd hi,Jw ω,Zh i hi]
  .rw[Qc hi,Ar (by rw[h3.len];simp;omega)]
 rw[e3,e2]at r;exact r
end Go.Fg.X
namespace Go.Fg.X
open Go.Proofs Go.Fg
open Go.Proofs.Tryz
section
variable (h:List Ob)(t m c:Nat){es:List Zt}{L:List Qq}(T:Va es L)(hlen:L.length<1000000)
 (ht:(h.map Ob.ro)[t]? = some ⟨.Vt,0,1,1,λ_=>[.mref m 0]⟩) (hm:(h.map Ob.ro)[m]? = some (QK .i64 c es).ro)
include T ht hm hlen
theorem QeP:Wy prog 66 h [.ptr t 0 0 0] (λd g=>J7 h.length (h++g) d ((L.filter (·.leaf)).map (·.iD))):=by
 refine xz Q4 200 func66 rfl ntmps66 results66 rfl λbase w pl F hF Q7 hb=>?_;rw[<- hF]at ht hm;have ZY:=Qb ht;have Zg:=Qb hm;simp only[go_sem];have hT:RG (F.map Ob.ro) 129 0 [] (λx=>x.leaf):=λh' x xp=>by
  refine xD func129 ntmps129 results129 λbase w pl F hF Q7 hb=>?_;simp only[go_sem,Qe];exact⟨_,rfl⟩
 refine Cc hb cu rfl ?_ (cY _ t m c T hlen (ZC ht) (DZ hm) (.raw (.func (.func 129) ⟨[]⟩ ⟨[]⟩)) 129 0 [] Qp4 rfl _ hT) rfl λd g hs=>?_
 .simp only[go_sem]
 apply Qn hb;exact J7.done Q7 ⟨_,rfl⟩ hs
end
def zZ{h g:List Ob}(l:Nat)(o:Ob)(e:(h.map Ob.ro)[l]? = some o):((h++g).map Ob.ro)[l]? = some o:=by
 rw[vK,JC (KD e)];exact e
def J7.closed{P}{f}{h:List Ob}{args}{L}(H:Wy P f h args (λd g=>J7 h.length (h++g) d L)):Q6 P f h args (λd=>d=ints L):=by
 refine QeN (ints L) (λ_=>rfl) ?_ H;rintro d g (⟨rfl,h3⟩|⟨lo,gn,off,row,rfl,⟨Zq,rfl⟩,ho,hr⟩)
 .subst h3;exact .inl rfl
 .refine .inr ⟨lo,gn,1,_,row,Zq,ho,λi hi=>?_,?_⟩
  .have:=hr i ω;rw[JD]at this;rw[this];rfl
  .have e1:D.fz lo gn (0+L.length) 1 row (.ref lo gn 0 L.length)=.imm 1 L.length (rowFrom 0 row):=by simp[D.fz,Rj]
   rw[e1];simp only[ints];rw[bE];refine⟨rfl,rfl,λi hi=>?_⟩;rw[Rt,hr i hi,Qru];exact HZ (DS _) _
def QsR(h)(x):Q6 prog 64 h [Xm x] (λd=>d=QT true):=by
 refine xD func64 ntmps64 results64 λbase w pl F hF Q7 hb=>?_;simp only[go_sem];all_goals exact cD
section
variable (h:List Ob)(t m c:Nat){es:List Zt}{L:List Qq}(T:Va es L)(hlen:L.length<1000000)
 (ht:(h.map Ob.ro)[t]? = some ⟨.Vt,0,1,1,λ_=>[.mref m 0]⟩) (hm:(h.map Ob.ro)[m]? = some (QK .i64 c es).ro)
include T ht hm hlen
theorem QsS:Wy prog 21 h [.ptr t 0 0 0] (λd g=>J7 h.length (h++g) d ((L.filter (λ_=>true)).map (·.iD))):=by
 refine xz Q4 200 func21 rfl ntmps21 results21 rfl λbase w pl F hF Q7 hb=>?_;rw[<- hF]at ht hm;have ZY:=Qb ht;have Zg:=Qb hm;simp only[go_sem];have hT:RG (F.map Ob.ro) 64 0 [] (λx=>true):=λh' x xp=>QsR h' x;refine Cc hb cu rfl ?_ (cY _ t m c T hlen (ZC ht) (DZ hm) (.raw (.func (.func 64) ⟨[]⟩ ⟨[]⟩)) 64 0 [] QpQ rfl _ hT) rfl λd g hs=>?_
 .simp only[go_sem]
 apply Qn hb;exact J7.done Q7 ⟨_,rfl⟩ hs
end
def VM(S:Nat->Prop)(h:List Ob)(t:Nat)(T:List Qq):Prop:=∃m c es,h[t]? = some ⟨.one,0,1,1,λ_=>[.mref m 0]⟩/\h[m]? = some (QK .i64 c es)/\Va es T/\S t/\S m
def VN(h:List Ob)(t:Nat)(T:List Qq):Prop:=∃m c es,(h.map Ob.ro)[t]? = some ⟨.Vt,0,1,1,λ_=>[.mref m 0]⟩/\(h.map Ob.ro)[m]? = some (QK .i64 c es).ro/\Va es T
def VM.toR{S}{h}{t}{T}:VM S h t T->VN h t T:=λ⟨m,c,es,h1,h2,h3,_,_⟩=>⟨m,c,es,ZC h1,ZC h2,h3⟩
def VM.step{S S'}{h h':List Ob}{t}{T}(e:∀l,l<h.length->S l->S' l/\h'[l]? = h[l]?):VM S h t T->VM S' h' t T:=λ⟨m,c,es,h1,h2,h3,h4,h5⟩=>
 ⟨m,c,es,((e _ (Qb h1) h4).2).trans h1,((e _ (Qb h2) h5).2).trans h2,h3,(e _ (Qb h1) h4).1,(e _ (Qb h2) h5).1⟩
def VN.more{h h':List Ob}{t}{T}(e:∀(l:Nat) (o:Ob),(h.map Ob.ro)[l]? = some o->(h'.map Ob.ro)[l]? = some o):VN h t T->VN h' t T:=λ⟨m,c,es,h1,h2,h3⟩=>⟨m,c,es,e _ _ h1,e _ _ h2,h3⟩
section
variable {h:List Ob}{t:Nat}{T:List Qq}(R:VN h t T)(hlen:T.length<1000000)
include R hlen
theorem R5:Q6 prog 21 h [.ptr t 0 0 0] (λd=>d=ints (T.map (·.iD))):=by
 obtain⟨m,c,es,ht,hm,hT⟩:=R;have:=J7.closed (QsS h t m c hT hlen ht hm);rwa [yi.2 (λ_ _=>rfl)]at this
theorem QsT(id):Q6 prog 271 h [.ptr t 0 0 0,Qa id] (λd=>d=ints (WE T id)):=by
 obtain⟨m,c,es,ht,hm,hT⟩:=R;exact J7.closed (nQ h t m c hT hlen ht hm id)
omit hlen in
theorem oL(I:TreeInv T)(id):Q6 prog 69 h [.ptr t 0 0 0,Qa id] (λd=>d=ints (Jr T 16 id)):=by
 obtain⟨m,c,es,ht,hm,hT⟩:=R;exact J7.closed (nK h t m c hT ht hm id 16 π (I.ends id))
omit hlen in
theorem Cw(id:Int):Q6 prog 22 h [.ptr t 0 0 0,Qa id] (λd=>d=.tup [Xm ((Qx T id).getD default),Qa (if (Qx T id).isSome then 0 else 6)]):=by
 obtain⟨m,c,es,ht,hm,hT⟩:=R;exact Qd5 h t m c hT ht hm id
end
def dP{f}{es:List Zt}(M:KW es (xJ f)):0<es.length↔∃i,f i=true:=by
 constructor
 .intro h;refine kC λh2=>?_;have:=M.QeM.2 λk=>by
   unfold xJ;rw[Qc (λh3=>h2 ⟨k,h3⟩)]
  omega
 .rintro⟨i,hi⟩;refine Qko λh=>?_;have:=M.QeM.1 h i;unfold xJ at this;rw[Qd hi]at this;cases this
def Cy{h}{p}{T}{A}(O:Gr h p T A)(I:JG T)(hA:xG T A)(id)(h0:id≠0):Q6 prog 153 h [.ptr p 0 0 0,Qa id] (λd=>d=QT (Ja T A id)):=by
 obtain⟨b1,b2,b3,c1,c2,c3,Zx,Z1,KP,kl,O⟩:=O;obtain⟨ho,m1,f1,m2,f2,m3,f3,ks,kn⟩:=O;have hi:=QsQ I hA id h0;have k2:=f2.at_ id;have k3:=f3.at_ id;by_cases Q8:id∈A
 .have e:Ja T A id=true:=hi.1 (.inl Q8);rw[yS,Qd Q8]at k2;rw[e];refine xD func153 ntmps153 results153 λbase w pl F hF Q7 hb=>?_;rw[<- hF]at ho m2;have Ql:=Qb ho;have oM:=Qb m2;simp only[go_sem,ho,m2,k2,Go.undef];all_goals exact cD
 .rw[yS,Qc Q8]at k2;cases hk:kl id with
  | none=>
   have e:Ja T A id=false:=by
    rw[Xe];intro h;rcases hi.2 h with h|⟨i,h⟩
    .exact Q8 h
    .rw[kn id i hk]at h;cases h
   rw[Ct,hk,YV]at k3;rw[e];refine xD func153 ntmps153 results153 λbase w pl F hF Q7 hb=>?_;rw[<- hF]at ho m2 m3;have Ql:=Qb ho;have oM:=Qb m2;have wD:=Qb m3;simp only[go_sem,ho,m2,m3,k2,k3];all_goals exact cD
  | some l=>
   obtain⟨c,es,ml,fl⟩:=ks id l hk;rw[Ct,hk,KK]at k3;have hl:=dP fl;have VH:0<es.length↔Ja T A id=true:=hl.trans ⟨λh=>hi.1 (.inr h),λh=>(hi.2 h).elim (λh=>absurd h Q8) λh=>h⟩;have d0:decide (0<es.length)=Ja T A id:=by
    cases hq:Ja T A id with
    | true=>exact QU (VH.2 hq)
    | false=>exact QI λh=>by rw[VH.1 h]at hq;cases hq
   have d1:decide ((0:Int)<(es.length:Int))=Ja T A id:=by rw[<- d0];congr 1;rw[eq_iff_iff];omega
   refine xD func153 ntmps153 results153 λbase w pl F hF Q7 hb=>?_;rw[<- hF]at ho m2 m3 ml;have Ql:=Qb ho;have oM:=Qb m2;have wD:=Qb m3;have Iu:=Qb ml;simp only[go_sem,ho,m2,m3,ml,k2,k3,d1];all_goals exact cD
def Step.R9{S}{h H:List Ob}(s:Step S h H){l}(hl:more S h l)(o):Step S h (H.set l o):=
 ⟨λj h1 h2=>by
  have QA:l≠j:=by
   rintro rfl;rcases hl with h3|h3
   .exact h2 h3
   .omega
  rw[Qr QA];exact s.keep j h1 h2,by rw[Wu];exact s.len⟩
def Step.oN{S}{h H}(s:Step S h H)(g):Step S h (H++g):=
 ⟨λj h1 h2=>by rw[QG (kG h1 s.len)];exact s.keep j h1 h2,by have:=s.len;simp;omega⟩
structure NI (S:Nat->Prop) (h:List Ob) (p:Nat) (T:List Qq) (A:List Int) (leaf:Int) (n:Nat) (s:St):Prop where
 ex:∃id dn c lo g row H S' b1 b2 b3 c1 c2 c3 Zx Z1 KP kl,up T leaf=dn++up T id/\Qx T id=some c/\(up T id).length<=n/\(∀i∈dn++[id],Ja T A i=false) /\
  zl S' H p b1 b2 b3 c1 c2 c3 Zx Z1 KP kl T (leaf::A) (zV T A dn)/\(∀l,S' l->more S h l/\l<H.length)/\¬ S' lo/\h.length<=lo/\Step S h H /\
  H[lo]? = some ⟨.arr,g,1,dn.length+1,row⟩/\(∀i,i<dn.length+1->row i=[Qa ((dn++[id]).getD i 0)]) /\
  s=⟨[(0,.ptr p 0 0 0),(6,.ref lo g 0 (dn.length+1)),(7,Qa id)],H⟩
section
variable {S:Nat->Prop}{h:List Ob}{p b1 b2 b3 c1 c2 c3:Nat}{Zx Z1 KP:List Zt}{kl:Int->Option Nat}{T:List Qq}{A:List Int}{Kd:Int->Int->Bool}(O:zl S h p b1 b2 b3 c1 c2 c3 Zx Z1 KP kl T A Kd)
include O
theorem zl.QeQ{c2'}{Ep}{A'}(M2:KW Ep (yS T A')):zl S (h.set b2 (QK .i64 c2' Ep)) p b1 b2 b3 c1 c2' c3 Zx Ep KP kl T A' Kd:=by
 refine⟨(Qr (Q3 O.R4)).trans O.o,(Qr (Q3 O.R0)).trans O.m1,O.f1,QE (Qb O.m2),M2,(Qr O.NH).trans O.m3,O.f3,λk l hl=>?_,O.kn,O.ki,O.R0,O.R3,O.NH,O.dN,O.R4,O.Eo,O.nk,O.sp,O.s1,O.s2,O.s3,O.sk⟩;obtain⟨c,es,h1,h2⟩:=O.ks k l hl;exact⟨c,es,(Qr (Q3 (O.nk k l hl).2.2.1)).trans h1,h2⟩
theorem zl.QeR{k}{l c'}{es'}{Kd'}(hk:kl k=some l)(M:KW es' (xJ (Kd' k)))(he:∀j,j≠k->∀i,Kd' j i=Kd j i):zl S (h.set l (QK .i64 c' es')) p b1 b2 b3 c1 c2 c3 Zx Z1 KP kl T A Kd':=by
 obtain⟨n0,n1,n2,n3⟩:=O.nk k l hk;have hl:l<h.length:=by
  obtain⟨c,es,h1,h2⟩:=O.ks k l hk;exact Qb h1
 refine⟨(Qr n0).trans O.o,(Qr n1).trans O.m1,O.f1,(Qr n2).trans O.m2,O.f2,(Qr n3).trans O.m3,O.f3,λj m hj=>?_,λj i hj=>?_,O.ki,O.R0,O.R3,O.NH,O.dN,O.R4,O.Eo,O.nk,O.sp,O.s1,O.s2,O.s3,O.sk⟩
 .by_cases VY:j=k
  .subst VY;rw[hk]at hj;cases hj;exact⟨c',es',QE hl,M⟩
  .obtain⟨c,es,h1,h2⟩:=O.ks j m hj;have QA:l≠m:=λe=>VY (O.ki j k m hj (by rw[<- e];exact hk));exact⟨c,es,(Qr QA).trans h1,h2.to λi=>by unfold xJ;rw[he j VY i]⟩
 .have VY:j≠k:=by rintro rfl;rw[hk]at hj;cases hj
  rw[he j VY i];exact O.kn j i hj
theorem zl.QsU{k}{n c c3'}{es es3'}{Kd'}(hn:h[n]? = some (QK .i64 c es))(M:KW es (xJ (Kd' k)))(h0:n≠p)(h1:n≠b1)(h2:n≠b2)(h3:n≠b3)(h4:∀j l,kl j=some l->l≠n)(sn:S n)
  (M3:KW es3' (λj=>if j=k then some (.mref n 0) else Ct kl j)) (he:∀j,j≠k->∀i,Kd' j i=Kd j i):zl S (h.set b3 (QK .i64 c3' es3')) p b1 b2 b3 c1 c2 c3' Zx Z1 es3' (λj=>if j=k then some n else kl j) T A Kd':=by
 refine⟨(Qr (Q3 O.Eo)).trans O.o,(Qr (Q3 O.R3)).trans O.m1,O.f1,(Qr (Q3 O.NH)).trans O.m2,O.f2,QE (Qb O.m3),M3.to λj=>?_,λj m hj=>?_,λj i hj=>?_,λj j' m hj VS=>?_,O.R0,O.R3,O.NH,O.dN,O.R4,O.Eo,λj m hj=>?_,O.sp,O.s1,O.s2,O.s3,λj m hj=>?_⟩
 .by_cases VY:j=k<;>simp[Ct,VY]
 .by_cases VY:j=k
  .subst VY;rw[Qd rfl]at hj;cases hj;exact⟨c,es,(Qr (Q3 h3)).trans hn,M⟩
  .rw[Qc VY]at hj;obtain⟨c,es,g1,g2⟩:=O.ks j m hj;exact⟨c,es,(Qr (Q3 (O.nk j m hj).2.2.2)).trans g1,g2.to λi=>by unfold xJ;rw[he j VY i]⟩
 .by_cases VY:j=k
  .subst VY;rw[Qd rfl]at hj;cases hj
  .rw[Qc VY]at hj;rw[he j VY i];exact O.kn j i hj
 .by_cases VY:j=k
  .by_cases Sa:j'=k
   .rw[VY,Sa]
   .rw[Qd VY]at hj;rw[Qc Sa]at VS;cases hj;exact absurd rfl (h4 _ _ VS)
  .by_cases Sa:j'=k
   .rw[Qc VY]at hj;rw[Qd Sa]at VS;cases VS;exact absurd rfl (h4 _ _ hj)
   .rw[Qc VY]at hj;rw[Qc Sa]at VS;exact O.ki j j' m hj VS
 .by_cases VY:j=k
  .rw[Qd VY]at hj;cases hj;exact⟨h0,h1,h2,h3⟩
  .rw[Qc VY]at hj;exact O.nk j m hj
 .by_cases VY:j=k
  .rw[Qd VY]at hj;cases hj;exact sn
  .rw[Qc VY]at hj;exact O.sk j m hj
theorem zl.app(g):zl S (h++g) p b1 b2 b3 c1 c2 c3 Zx Z1 KP kl T A Kd:=O.step λl hl h1=>⟨h1,QG hl⟩
end
def NI.of{S}{h}{p}{T}{A}{leaf}{n}{id}{dn}{c}{lo g k}(row){H}(S'){b1 b2 b3 c1 c2 c3}{Zx Z1 KP}{kl}
  (hu:up T leaf=dn++up T id) (hc:Qx T id=some c) (hn:(up T id).length<=n) (ha:∀i∈dn++[id],Ja T A i=false) (O:zl S' H p b1 b2 b3 c1 c2 c3 Zx Z1 KP kl T (leaf::A) (zV T A dn)) (hS:∀l,S' l->more S h l/\l<H.length) (h1:¬ S' lo) (h2:h.length<=lo) (hs:Step S h H)
  (hk:k=dn.length+1) (h3:H[lo]? = some ⟨.arr,g,1,k,row⟩) (h4:∀i,i<dn.length+1->row i=[Qa ((dn++[id]).getD i 0)]):NI S h p T A leaf n ⟨[(0,.ptr p 0 0 0),(6,.ref lo g 0 k),(7,Qa id)],H⟩:=by
 subst hk;exact⟨⟨id,dn,c,lo,g,row,H,S',b1,b2,b3,c1,c2,c3,Zx,Z1,KP,kl,hu,hc,hn,ha,O,hS,h1,h2,hs,h3,h4,rfl⟩⟩
def QsV(T)(A)(leaf:Int)(k):(if k=leaf then some (Qa ((Qx T leaf).getD default).parent) else yS T A k)=yS T (leaf::A) k:=by
 unfold yS;by_cases h:k=leaf
 .subst h;simp
 .simp[h]
def QeS{S}{h}{p}{T}{A}(O:zn S h p T A)(I:JG T)(hA:xG T A)(leaf)(c:Qq)(hc:Qx T leaf=some c)(zo:c.leaf=true)(qR:1<QR c.ls)(ZP:Ja T A leaf=false):
  QH prog 146 h [.ptr p 0 0 0,Qa leaf] (λd h'=>∃d1,d=.tup [d1,Qa 0]/\J7 h.length h' d1 (Vo T A leaf)/\zn (more S h) h' p T (leaf::A)/\Step S h h'):=by
 have O0:=O;have hR:=O.toR;obtain⟨b1,b2,b3,c1,c2,c3,Zx,Z1,KP,kl,O⟩:=O;have ho:=O.o;have m1:=O.m1;have m2:=O.m2;have m3:=O.m3;have k1:=O.f1.at_ leaf;rw[vj,hc]at k1;simp only[Qd qR,zo,Is,Vs]at k1;have oO:leaf≠0:=λe=>by rw[e,Ig I]at hc;cases hc
 have Iv:=Cy hR I hA leaf oO;rw[ZP]at Iv;obtain⟨c2',Ep,e2,M2⟩:=O.f2.set .i64 c2 leaf (Qa c.parent);simp only[go_sem]at e2;refine QQ func146 ntmps146 results146 λbase w pl hb=>?_;have Ql:=Qb ho;have Sb:=Qb m1;simp only[go_sem,ho,m1,k1];apply ZQ hb Gc Iv;apply Qn hb;apply QF hb O1;simp only[go_sem,Qe,ho,m1,m2,k1];simp only[e2];have Sc:NI S h p T A leaf (up T leaf).length ⟨[(0,.ptr p 0 0 0),(6,.ref h.length 0 0 1),(7,Qa leaf)],h.set b2 (QK .i64 c2' Ep)++[⟨.arr,0,1,1,λ_=>[Qa leaf]⟩]⟩:=by
  have O2:=((O.step (S':=λl=>S l/\l<h.length) λl h1 h2=>⟨⟨h2,h1⟩,rfl⟩).QeQ (c2':=c2') (M2.to λk=>by
   have hp:(Qx T leaf).getD default=c:=by rw[hc];rfl
   have:=QsV T A leaf k;rw[hp]at this;exact this)).app [⟨.arr,0,1,1,λ_=>[Qa leaf]⟩]
  refine⟨leaf,[],c,h.length,0,λ_=>[Qa leaf],_,λl=>S l/\l<h.length,b1,b2,b3,c1,c2',c3,Zx,Ep,KP,kl,rfl,hc,QB _,λi hi=>?_,?_,λl h1=>⟨.inl h1.1,by have:=h1.2;simp;omega⟩,λh1=>by have:=h1.2;omega,QB _,⟨λl h1 h2=>?_,σ⟩,?_,λi hi=>?_,rfl⟩
  .simp only[zK,q8]at hi;rw[hi];exact ZP
  .rw[show zV T A []=qO T A from funext λp=>funext λi=>Qsc T A p i];exact O2
  .rw[QG (by simpa using h1),Qr (λ(e:b2=l)=>h2 (e▸O.s2))]
  .rw[KV σ];rfl
  .obtain rfl:i=0:=by simp at hi;omega
   rfl
 refine HJ (NI S h p T A leaf) (up T leaf).length QM Sc ?_;clear Sc O m1 m2 m3 ho k1 e2 M2 Iv O0 hR;rintro n s ⟨id,dn,cc,lo,g,row,H,S',b1,b2,b3,c1,c2,c3,Zx,Z1,KP,kl,hu,V6,hn,Gs,O,hS,Zq,wC,ZO,j4,ZG,rfl⟩;have ho:=O.o;have m1:=O.m1;have m3:=O.m3;have Ql:=Qb ho;have Sb:=Qb m1;have wD:=Qb m3;have Gt:=Qb j4;obtain⟨d0,Gu,JX⟩:=Qeg I hc qR id (by rw[hu];exact Qn7 _ (Xo I V6));rw[V6]at Gu;cases Gu;have k1:=O.f1.at_ id;rw[vj,V6]at k1;simp only[Qd JX]at k1;have k3:=O.f3.at_ cc.parent;have Jk:=Qsa I hA hu V6 Gs;have dQ:=Qsb I (A:=A) (dn:=dn) V6;have oP:b3≠lo:=λe=>Zq (e▸O.s3);have QEI:p≠lo:=λe=>Zq (e▸O.sp);have QEJ:b1≠lo:=λe=>Zq (e▸O.s1);have fin:∀(H2:List Ob) (S2:Nat->Prop) c3' es3' kl',zl S2 H2 p b1 b2 b3 c1 c2 c3' Zx Z1 es3' kl' T (leaf::A) (zV T A (dn++[id]))->(∀l,S2 l->more S h l)->Step S h H2->H2[lo]? = some ⟨.arr,g,1,dn.length+1,row⟩->(cc.parent=0\/Ja T A cc.parent=true) ->
   J7 h.length H2 (.ref lo g 0 (dn.length+1)) (Vo T A leaf)/\zn (more S h) H2 p T (leaf::A)/\Step S h H2:=λH2 S2 c3' es3' kl' O2 Iw Qhd QsW he=>by
  obtain⟨e1,e2⟩:=Qsd I hA hu V6 Gs he;rw[<- e1];refine⟨.inr ⟨lo,g,0,row,σ,⟨wC,rfl⟩,by simpa using QsW,λi hi=>?_⟩,?_,Qhd⟩
  .rw[JD];exact ZG i (by simpa using hi)
  .rw[show zV T A (dn++[id])=qO T (leaf::A) from funext λp=>funext λi=>e2 p i]at O2;exact⟨_,_,_,_,_,_,_,_,_,_,O2.step λl h1 h2=>⟨Iw l h2,rfl⟩⟩
 by_cases NJ:∃i,zV T A dn cc.parent i=true
 ·
  cases hk:kl cc.parent with
  | none=>obtain⟨i,hi⟩:=NJ;rw[O.kn _ i hk]at hi;cases hi
  | some l=>
   obtain⟨c,es,ml,fl⟩:=O.ks _ l hk;have Iu:=Qb ml;rw[Ct,hk,KK]at k3;have YZ:0<es.length:=(dP fl).2 NJ;have d1:((es.length:Int)==0)=false:=Xl ω;have d2:decide ((0:Int)<(es.length:Int))=true:=QU ω;have Cz:=(O.nk _ l hk).2.2.2;have oQ:l≠lo:=λe=>Zq (e▸O.sk _ l hk);obtain⟨c',es',ea,M'⟩:=fl.set .i64 c id (Qa 1);simp only[go_sem]at ea;have he:cc.parent=0\/Ja T A cc.parent=true:=by
    by_cases h0:cc.parent=0
    .exact .inl h0
    .obtain⟨d,hd,Ed⟩:=I.J8 cc (xF I V6) h0;exact .inr ((Qef I hA hd Ed).2 (Jk.1 NJ))
   have O2:=O.QeR (c':=c') (es':=es') (Kd':=zV T A (dn++[id])) hk (M'.to λj=>by
    unfold xJ;rw[dQ];by_cases hj:j=id
    .simp[hj]
    .simp[hj]) (λj hj i=>by rw[dQ,Qc (λh=>hj h.1)])
   apply Qg hb;simp only[go_sem,ho,m1,m3,k1,k3,ml,d1,d2,Go.undef];simp only[ea];exact⟨_,rfl,fin _ _ _ _ _ O2 (λl h=>(hS l h).1) (ZO.R9 (hS l (O.sk _ l hk)).1 _) ((Qr oQ).trans j4) he⟩
 ·
  have hz:∀i,zV T A dn cc.parent i=false:=λi=>by
   rw[Xe];exact λh=>NJ ⟨i,h⟩
  have hB:(kl cc.parent=none/\True/\True/\True)\/∃l c es,kl cc.parent=some l/\H[l]? = some (QK .i64 c es)/\l<H.length/\es.length=0:=by
   cases hk:kl cc.parent with
   | none=>exact .inl ⟨rfl,trivial,trivial,trivial⟩
   | some l=>
    obtain⟨c,es,ml,fl⟩:=O.ks _ l hk;refine .inr ⟨l,c,es,rfl,ml,Qb ml,?_⟩;have:=(dP fl).1;by_cases h0:0<es.length
    .exact absurd (this h0) NJ
    .omega
  obtain⟨c3',es3',e3,M3⟩:=O.f3.set .i64 c3 cc.parent (.mref H.length 0);obtain⟨NK,NL,e0,M0⟩:=KW.nil.set .i64 0 id (Qa 1);simp only[go_sem]at e3 e0;have Sd:=M3.at_ cc.parent;rw[Qd rfl]at Sd;have Se:∀l,S' l->l≠H.length:=λl hl e=>by have:=(hS l hl).2;omega
  have QEK:=ZO.len;have O2:=((O.app [QK .i64 NK NL]).step (S':=λl=>S' l\/l=H.length) λl _ h2=>⟨.inl h2,rfl⟩).QsU (k:=cc.parent) (n:=H.length) (c3':=c3') (es3':=es3') (Kd':=zV T A (dn++[id])) (KV rfl) (M0.to λj=>by
    unfold xJ;rw[dQ,hz];by_cases hj:j=id
    .simp[hj]
    .simp[hj]) (λe=>Se p O.sp e.symm) (λe=>Se b1 O.s1 e.symm) (λe=>Se b2 O.s2 e.symm) (λe=>Se b3 O.s3 e.symm) (λj l hj=>Se l (O.sk j l hj)) (.inr rfl) M3 (λj hj i=>by rw[dQ,Qc (λh=>hj h.1)])
  rw[Cd wD]at O2;have Qhd:=(ZO.R9 (hS b3 O.s3).1 (QK .i64 c3' es3')).oN [QK .i64 NK NL];have Sf:((H.set b3 (QK .i64 c3' es3'))++[QK .i64 NK NL])[lo]? = some ⟨.arr,g,1,dn.length+1,row⟩:=by
   rw[QG (by simpa using Gt),Qr oP];exact j4
  have Iw:∀l,(S' l\/l=H.length)->more S h l:=λl hl=>hl.elim (λh=>(hS l h).1) λe=>.inr ω;have Ed:dn.length<=16:=by
   have e:=congrArg List.length hu;have:=yN (L:=T) (n:=16) (id:=leaf);rw[ZW]at e;unfold up at e;omega
  have vX:cc.parent≠0->NI S h p T A leaf (up T cc.parent).length ⟨[(0,.ptr p 0 0 0),(6,.ref lo (g+1) 0 (dn.length+1+1)),(7,Qa cc.parent)],
    (H.set b3 (QK .i64 c3' es3')).set lo ⟨.arr,g+1,1,dn.length+1+1,Kt (dn.length+1) 0 row λ_=>[Qa cc.parent]⟩++[QK .i64 NK NL,⟨.arr,0,1,1,λ_=>[Qa cc.parent]⟩]⟩:=λh0=>by
   obtain⟨d,hd,QeU⟩:=I.J8 cc (xF I V6) h0;have e1:(dn++[id]).length+1=dn.length+1+1:=σ;have Ej:Ja T A cc.parent=false:=by
    rw[Xe];exact λhq=>NJ (Jk.2 ((Qef I hA hd QeU).1 hq))
   have dS:lo<(H.set b3 (QK .i64 c3' es3')).length:=by simpa using Gt
   have e2:(H.set b3 (QK .i64 c3' es3')).set lo ⟨.arr,g+1,1,dn.length+1+1,Kt (dn.length+1) 0 row λ_=>[Qa cc.parent]⟩++[QK .i64 NK NL,⟨.arr,0,1,1,λ_=>[Qa cc.parent]⟩] =
     (H.set b3 (QK .i64 c3' es3')++[QK .i64 NK NL]).set lo ⟨.arr,g+1,1,dn.length+1+1,Kt (dn.length+1) 0 row λ_=>[Qa cc.parent]⟩++[⟨.arr,0,1,1,λ_=>[Qa cc.parent]⟩]:=by
    rw[Cd dS];simp
   rw[e2];have QeV:∀l,(S' l\/l=H.length)->l≠lo:=λl hl e=>by
    subst e;rcases hl with hl|hl
    .exact Zq hl
    .omega
   refine NI.of (Kt (dn.length+1) 0 row λ_=>[Qa cc.parent]) (λl=>S' l\/l=H.length) (dn:=dn++[id]) ?_ hd (QB _) (λi hi=>?_) (O2.step (λl h1 h2=>⟨h2,?_⟩)) (λl hl=>⟨Iw l hl,?_⟩) (λh1=>QeV lo h1 rfl) wC ((Qhd.R9 (.inr wC) _).oN _) e1.symm ?_ ?_
   .rw[hu,Km I V6];simp
   .rcases QX.1 hi with hi|hi
    .exact Gs i hi
    .rw[q8.1 hi];exact Ej
   .rw[QG (by simpa using h1),Qr (Q3 (QeV l h2))]
   .rcases hl with hl|hl
    .have:=(hS l hl).2;simp;omega
    .simp;omega
   .rw[QG ξ,QE ξ]
   .intro i hi;have:=Ie (dn:=dn++[id]) (off:=0) (row:=row) (v:=cc.parent) (λi hi=>by rw[JD];exact ZG i (by simpa using hi)) i (by simpa using hi);rw[JD]at this;simpa using this
  rcases hB with ⟨hk,ml,Iu,aU⟩|⟨l,c,es,hk,ml,Iu,aU⟩
  .rw[Ct,hk,YV]at k3;apply Qg hb;simp only[go_sem,Qe,ho,Ql,m1,m3,wD,k1,k3];simp only[e3];by_cases h0:cc.parent=0
   .have d0:(cc.parent==0)=true:=by simpa using h0
    simp only[go_sem,Qe,ho,Qr (Q3 O.Eo),QE wD,wD,Sd,e0,d0];exact⟨_,rfl,fin _ _ _ _ _ O2 Iw Qhd Sf (.inl h0)⟩
   .have d0:(cc.parent==0)=false:=by simpa using h0
    simp only[go_sem,Qe,ho,Qr (Q3 O.Eo),QE wD,wD,Sd,e0,d0,j4,Qr oP,Gt];refine⟨ω,(up T cc.parent).length,⟨[(0,.ptr p 0 0 0),(6,.ref lo (g+1) 0 (dn.length+1+1)),(7,Qa cc.parent)],_⟩,?_,QM,vX h0⟩;have:=congrArg List.length (Km I V6);simp only[Kv]at this;omega
  .rw[Ct,hk,KK]at k3;apply Qg hb;simp only[go_sem,Qe,ho,Ql,m1,m3,wD,k1,k3,ml,aU];simp only[e3];by_cases h0:cc.parent=0
   .have d0:(cc.parent==0)=true:=by simpa using h0
    simp only[go_sem,Qe,ho,Qr (Q3 O.Eo),QE wD,wD,Sd,e0,d0];exact⟨_,rfl,fin _ _ _ _ _ O2 Iw Qhd Sf (.inl h0)⟩
   .have d0:(cc.parent==0)=false:=by simpa using h0
    simp only[go_sem,Qe,ho,Qr (Q3 O.Eo),QE wD,wD,Sd,e0,d0,j4,Qr oP,Gt];refine⟨ω,(up T cc.parent).length,⟨[(0,.ptr p 0 0 0),(6,.ref lo (g+1) 0 (dn.length+1+1)),(7,Qa cc.parent)],_⟩,?_,QM,vX h0⟩;have:=congrArg List.length (Km I V6);simp only[Kv]at this;omega
structure NM (S:Nat->Prop) (h:List Ob) (p:Nat) (T:List Qq) (A:List Int) (leaf:Int) (n:Nat) (s:St):Prop where
 ex:∃id dn c lo g row H S' b1 b2 b3 c1 c2 c3 Zx Z1 KP kl,up T leaf=dn++up T id/\Qx T id=some c/\(up T id).length<=n/\(∀i∈dn++[id],Ja T (Ka A leaf) i=false) /\
  zl S' H p b1 b2 b3 c1 c2 c3 Zx Z1 KP kl T (Ka A leaf) (jU T A dn)/\(∀l,S' l->more S h l/\l<H.length)/\¬ S' lo/\h.length<=lo/\Step S h H /\
  H[lo]? = some ⟨.arr,g,1,dn.length+1,row⟩/\(∀i,i<dn.length+1->row i=[Qa ((dn++[id]).getD i 0)]) /\
  s=⟨[(0,.ptr p 0 0 0),(6,.ref lo g 0 (dn.length+1)),(7,Qa id)],H⟩
def NM.of{S}{h}{p}{T}{A}{leaf}{n}{id}{dn}{c}{lo g k}(row){H}(S'){b1 b2 b3 c1 c2 c3}{Zx Z1 KP}{kl}
  (hu:up T leaf=dn++up T id) (hc:Qx T id=some c) (hn:(up T id).length<=n) (ha:∀i∈dn++[id],Ja T (Ka A leaf) i=false) (O:zl S' H p b1 b2 b3 c1 c2 c3 Zx Z1 KP kl T (Ka A leaf) (jU T A dn)) (hS:∀l,S' l->more S h l/\l<H.length) (h1:¬ S' lo) (h2:h.length<=lo) (hs:Step S h H)
  (hk:k=dn.length+1) (h3:H[lo]? = some ⟨.arr,g,1,k,row⟩) (h4:∀i,i<dn.length+1->row i=[Qa ((dn++[id]).getD i 0)]):NM S h p T A leaf n ⟨[(0,.ptr p 0 0 0),(6,.ref lo g 0 k),(7,Qa id)],H⟩:=by
 subst hk;exact⟨⟨id,dn,c,lo,g,row,H,S',b1,b2,b3,c1,c2,c3,Zx,Z1,KP,kl,hu,hc,hn,ha,O,hS,h1,h2,hs,h3,h4,rfl⟩⟩
def QsX(T)(A)(leaf)(k):(if k=leaf then none else yS T A k)=yS T (Ka A leaf) k:=by
 unfold yS Ka;by_cases h:k=leaf
 .subst h;simp
 .simp[h,Jt]
def QsY{S}{h}{p}{T}{A}(O:zn S h p T A)(I:JG T)(hA:xG T A)(leaf)(c:Qq)(hc:Qx T leaf=some c)(zo:c.leaf=true)(qR:1<QR c.ls)(K9:leaf∈A)(ZP:Ja T (Ka A leaf) leaf=false):
  QH prog 292 h [.ptr p 0 0 0,Qa leaf] (λd h'=>∃d1,d=.tup [d1,Qa 0]/\J7 h.length h' d1 (Vo T (Ka A leaf) leaf)/\zn (more S h) h' p T (Ka A leaf)/\Step S h h'):=by
 have O0:=O;have hR:=O.toR;obtain⟨b1,b2,b3,c1,c2,c3,Zx,Z1,KP,kl,O⟩:=O;have ho:=O.o;have m1:=O.m1;have m2:=O.m2;have m3:=O.m3;have oM:=Qb m2;have k1:=O.f1.at_ leaf;rw[vj,hc]at k1;simp only[Qd qR,zo,Is,Vs]at k1;have oO:leaf≠0:=λe=>by rw[e,Ig I]at hc;cases hc
 have Iv:=Cy hR I hA leaf oO;rw[(Ij K9 leaf).2 (.inl (Xo I hc))]at Iv;have M2:=O.f2.del leaf;refine QQ func292 ntmps292 results292 λbase w pl hb=>?_;have Ql:=Qb ho;have Sb:=Qb m1;simp only[go_sem,ho,m1,k1];apply ZQ hb Gc Iv;apply Qg hb;simp only[go_sem,Qe,ho,m2];have Sc:NM S h p T A leaf (up T leaf).length ⟨[(0,.ptr p 0 0 0),(6,.ref h.length 0 0 1),(7,Qa leaf)],h.set b2 (QK .i64 c2 (JS Z1 leaf))++[⟨.arr,0,1,1,λ_=>[Qa leaf]⟩]⟩:=by
  have O2:=((O.step (S':=λl=>S l/\l<h.length) λl h1 h2=>⟨⟨h2,h1⟩,rfl⟩).QeQ (c2':=c2) (A':=Ka A leaf) (M2.to λk=>QsX T A leaf k)).app [⟨.arr,0,1,1,λ_=>[Qa leaf]⟩];rw[<- show jU T A []=qO T A from funext λp=>funext λi=>by simp[jU]]at O2;refine NM.of (λ_=>[Qa leaf]) (λl=>S l/\l<h.length) (dn:=[]) rfl hc (QB _) (λi hi=>?_) O2 (λl h1=>⟨.inl h1.1,by have:=h1.2;simp;omega⟩) (λh1=>by have:=h1.2;omega) (QB _) ⟨λl h1 h2=>?_,σ⟩ rfl ?_ (λi hi=>?_)
  .simp only[zK,q8]at hi;rw[hi];exact ZP
  .rw[QG (by simpa using h1),Qr (λ(e:b2=l)=>h2 (e▸O.s2))]
  .rw[KV σ];rfl
  .obtain rfl:i=0:=by simp at hi;omega
   rfl
 refine HJ (NM S h p T A leaf) (up T leaf).length QM Sc ?_;clear Sc O m1 m2 m3 ho k1 M2 Iv O0 hR;rintro n s ⟨id,dn,cc,lo,g,row,H,S',b1,b2,b3,c1,c2,c3,Zx,Z1,KP,kl,hu,V6,hn,Gs,O,hS,Zq,wC,ZO,j4,ZG,rfl⟩;have ho:=O.o;have m1:=O.m1;have m3:=O.m3;have Ql:=Qb ho;have Sb:=Qb m1;have wD:=Qb m3;have Gt:=Qb j4;obtain⟨d0,Gu,JX⟩:=Qeg I hc qR id (by rw[hu];exact Qn7 _ (Xo I V6));rw[V6]at Gu;cases Gu;have k1:=O.f1.at_ id;rw[vj,V6]at k1;simp only[Qd JX]at k1;have k3:=O.f3.at_ cc.parent;have QsZ:Ja T A id=true:=(Ij K9 id).2 (.inl (by rw[hu];exact Qn7 _ (Xo I V6)));have Qs0:id ∉ dn:=λhm=>by
  have nd:=Ec I leaf;rw[hu,JJ]at nd;exact nd.2.2 id hm id (Xo I V6) rfl
 have QeW:jU T A dn cc.parent id=true:=Nz.2 ⟨wo.2 ⟨cc,V6,rfl,QsZ⟩,Qs0⟩;have hKn:∀j,j≠cc.parent->∀i,jU T A (dn++[id]) j i=jU T A dn j i:=λj hj i=>by
  rw[vG,Nz,Nz];constructor
  .exact λ⟨h1,h2⟩=>⟨h1,λh3=>h2 (Ph _ h3)⟩
  .rintro⟨h1,h2⟩;refine⟨h1,λh3=>?_⟩;rcases QX.1 h3 with h3|h3
   .exact h2 h3
   .rw[q8.1 h3]at h1;obtain⟨e,h4,h5,_⟩:=wo.1 h1;rw[V6]at h4;cases h4;exact hj h5.symm
 cases hk:kl cc.parent with
 | none=>rw[O.kn _ id hk]at QeW;cases QeW
 | some l=>
  obtain⟨c,es,ml,fl⟩:=O.ks _ l hk;have Iu:=Qb ml;rw[Ct,hk,KK]at k3;obtain⟨n0,n1,n2,n3⟩:=O.nk _ l hk;have oQ:l≠lo:=λe=>Zq (e▸O.sk _ l hk);have M':KW (JS es id) (xJ (jU T A (dn++[id]) cc.parent)):=(fl.del id).to λj=>by
   unfold xJ jU;by_cases hj:j=id
   .simp[hj]
   .simp[hj]
  have hlen:=dP M';have O2:=O.QeR (c':=c) (es':=JS es id) (Kd':=jU T A (dn++[id])) hk M' hKn;have Qhd:=ZO.R9 (hS l (O.sk _ l hk)).1 (QK .i64 c (JS es id));have Sf:(H.set l (QK .i64 c (JS es id)))[lo]? = some ⟨.arr,g,1,dn.length+1,row⟩:=(Qr oQ).trans j4;have fin:(cc.parent=0\/Ja T (Ka A leaf) cc.parent=true) ->
    J7 h.length (H.set l (QK .i64 c (JS es id))) (.ref lo g 0 (dn.length+1)) (Vo T (Ka A leaf) leaf)/\zn (more S h) (H.set l (QK .i64 c (JS es id))) p T (Ka A leaf)/\Step S h (H.set l (QK .i64 c (JS es id))):=λhe=>by
   obtain⟨e1,e2⟩:=Qse I K9 hu V6 Gs he;rw[<- e1];refine⟨.inr ⟨lo,g,0,row,σ,⟨wC,rfl⟩,by simpa using Sf,λi hi=>?_⟩,?_,Qhd⟩
   .rw[JD];exact ZG i (by simpa using hi)
   .rw[show jU T A (dn++[id])=qO T (Ka A leaf) from funext λp=>funext λi=>e2 p i]at O2;exact⟨_,_,_,_,_,_,_,_,_,_,O2.step λl h1 h2=>⟨(hS l h2).1,rfl⟩⟩
  by_cases dU:∃i,jU T A (dn++[id]) cc.parent i=true
  .have YZ:=hlen.2 dU;have d2:decide ((0:Int)<((JS es id).length:Int))=true:=QU ω;have he:cc.parent=0\/Ja T (Ka A leaf) cc.parent=true:=by
    by_cases h0:cc.parent=0
    .exact .inl h0
    .exact .inr ((Qeh I hA K9 hu V6 Gs h0).1 dU)
   apply Qg hb;simp only[go_sem,ho,m1,m3,k1,k3,ml,d2,Go.undef,Qr n0,Qr n3,QE Iu];exact⟨_,rfl,fin he⟩
  .have hz:¬ 0<(JS es id).length:=λh=>dU (hlen.1 h);have d2:decide ((0:Int)<((JS es id).length:Int))=false:=QI ω;by_cases h0:cc.parent=0
   .have d0:(cc.parent==0)=true:=by simpa using h0
    apply Qg hb;simp only[go_sem,ho,m1,m3,k1,k3,ml,d2,d0,Qr n0,Qr n3,QE Iu];exact⟨_,rfl,fin (.inl h0)⟩
   .have d0:(cc.parent==0)=false:=by simpa using h0
    have Ed:dn.length<=16:=by
     have e:=congrArg List.length hu;have:=yN (L:=T) (n:=16) (id:=leaf);rw[ZW]at e;unfold up at e;omega
    obtain⟨d,hd,QeU⟩:=I.J8 cc (xF I V6) h0;have Ej:Ja T (Ka A leaf) cc.parent=false:=by
     rw[Xe];exact λhq=>dU ((Qeh I hA K9 hu V6 Gs h0).2 hq)
    have e1:(dn++[id]).length+1=dn.length+1+1:=σ;apply Qg hb;simp only[go_sem,Qe,ho,m1,m3,k1,k3,ml,d2,d0,Qr n0,Qr n3,QE Iu,Sf,Gt];refine⟨ω,(up T cc.parent).length,⟨[(0,.ptr p 0 0 0),(6,.ref lo (g+1) 0 (dn.length+1+1)),(7,Qa cc.parent)],_⟩,?_,QM,?_⟩
    .have:=congrArg List.length (Km I V6);simp only[Kv]at this;omega
    .refine NM.of (Kt (dn.length+1) 0 row λ_=>[Qa cc.parent]) S' (dn:=dn++[id]) ?_ hd (QB _) (λi hi=>?_) (O2.step (λj h1 h2=>⟨h2,?_⟩)) (λj hj=>⟨(hS j hj).1,?_⟩) Zq wC ((Qhd.R9 (.inr wC) _).oN _) e1.symm ?_ ?_
     .rw[hu,Km I V6];simp
     .rcases QX.1 hi with hi|hi
      .exact Gs i hi
      .rw[q8.1 hi];exact Ej
     .rw[QG (by simpa using h1),Qr (λ(e:lo=j)=>Zq (e▸h2))]
     .have:=(hS j hj).2;simp;omega
     .rw[QG (by simpa using Gt),QE (by simpa using Gt)];rfl
     .intro i hi;have:=Ie (dn:=dn++[id]) (off:=0) (row:=row) (v:=cc.parent) (λi hi=>by rw[JD];exact ZG i (by simpa using hi)) i (by simpa using hi);rw[JD]at this;simpa using this
def Qs2{T:List Qq}(hr:WU T){k}(hk:k<T.length)(j):Qx (T.take (k+1)) j=if j=(T.getD k default).iD then some (T.getD k default) else Qx (T.take k) j:=by
 rw[getD_take T default k hk];unfold Qx;rw[List.find?_append];have WH:T.getD k default∈T:=qg T default k hk;by_cases h:j=(T.getD k default).iD
 .rw[Qd h];have:List.find? (λc=>c.iD==j) (T.take k)=none:=by
   rw[jm];intro x hx hxj;have hp:=hr;rw[<- BO k T]at hp;have h2:=(Uq.1 hp).2.2 x hx (T.getD k default) (by
    rw[Pa hk,Q5,QP hk];exact J2 ..)
   simp at hxj;omega
  rw[this];simp[h]
 .rw[Qc h];have:((T.getD k default).iD==j)=false:=by simpa using Q3 h
  simp only[jl,this,List.find?_nil,Option.or_none]
def QeX{h:List Ob}{t}{T}(R:VN h t T)(I:JG T):QH prog 135 h [.ptr t 0 0 0] (λd h'=>d=.ptr (h.length+3) 0 0 0/\zn (λl=>h.length<=l) h' (h.length+3) T []/\∃g,h'=h++g):=by
 have hlen:=I.len;have R2:∀g,VN (h++g) t T:=λg=>R.more zZ;refine QQ func135 ntmps135 results135 λbase w pl hb=>?_;simp only[go_sem,Qe,Qe];apply ZQ hb Rw (R5 (R2 _) ω);apply Qn hb;refine Z3 (λk st=>∃c es g,KW es (vj (T.take k))/\st=⟨[(0,.ptr t 0 0 0),(3,.ptr (h.length+3) 0 0 0),(15,ints (T.map (·.iD))),(16,Qa T.length),(17,Qa k)],h++(QK .i64 c es::QK .i64 0 []::QK .i64 0 []::dM h.length (h.length+1) (h.length+2)::g)⟩) T.length (s0:=⟨[(0,.ptr t 0 0 0),(3,.ptr (h.length+3) 0 0 0),(15,ints (T.map (·.iD))),(16,Qa T.length),(17,Qa 0)],h++(QK .i64 0 []::QK .i64 0 []::QK .i64 0 []::dM h.length (h.length+1) (h.length+2)::[])⟩) (Qz.frame (by simp only[go_sem,J1])) ⟨0,[],[],KW.nil.to λk=>by simp[vj,Qx],rfl⟩ ?_;rintro k _ hk ⟨c,es,g,M,rfl⟩;by_cases Qj:k<T.length
 .have dk:=QU Qj;have hg:(T.map (·.iD)).getD k 0=(T.getD k default).iD:=getD_map _ _ _ _ _ Qj;have WH:T.getD k default∈T:=qg T default k Qj;have hf:Qx T (T.getD k default).iD=some (T.getD k default):=(J6 I.rising).2 ⟨WH,rfl⟩;have hft:=Qs2 I.rising Qj;obtain⟨x,hx⟩:∃x,x=T.getD k default:=⟨_,rfl⟩;rw[<- hx]at hg WH hf hft;have XB:=λg=>Cw (R2 g) x.iD;rw[hf]at XB;simp only[KR,za,Vs]at XB;have Zh:∀j,vj (T.take (k+1)) j=if j=x.iD then (if 1<QR x.ls then some (.agg [Qa x.parent,Qa (Is x.leaf)]) else none) else vj (T.take k) j:=λj=>by
   unfold vj;rw[hft];by_cases hj:j=x.iD
   .simp[hj]
   .simp[hj]
  have lN:vj (T.take k) x.iD=none:=by
   unfold vj;have:Qx (T.take k) x.iD=none:=by
    rw[yL];intro y hy e;have hp:=I.rising;rw[<- BO k T]at hp;have h2:=(Uq.1 hp).2.2 y hy x (by
     rw[Pa Qj,hx,Q5,QP Qj];exact J2 ..)
    omega
   rw[this]
  apply Qg hb;simp only[go_sem,Qj,hg,J1];apply ZQ hb qf (XB _);apply JH hb;apply ZK hb kX (kY x);apply JH hb;by_cases hs:1<QR x.ls
  .have ds:=QU hs;simp only[Qd hs]at Zh;obtain⟨c',es',e1,M'⟩:=M.set .i64 c x.iD (.agg [Qa x.parent,Qa (Is x.leaf)]);simp only[go_sem]at e1;have M2:=M'.to λj=>(Zh j).symm;have Zb:=J9 (show k<4611686018427387904 from ω);cases hl:x.leaf with
   | true=>
    rw[hl]at e1;simp only[Is,Vs]at e1;simp only[go_sem,Qe,ds];apply QF hb ut;simp only[go_sem,Qe];simp only[e1];exact⟨Qj,_,Qz.frame (by simp only[go_sem,Zb]),c',es',_,M2,rfl⟩
   | false=>
    rw[hl]at e1;simp only[Is]at e1;simp only[go_sem,Qe,ds];apply QF hb ut;simp only[go_sem,Qe];simp only[q7,vN]at e1;simp only[e1];exact⟨Qj,_,Qz.frame (by simp only[go_sem,Zb]),c',es',_,M2,rfl⟩
  .have ds:=QI hs;simp only[Qc hs]at Zh;have Zb:=J9 (show k<4611686018427387904 from ω);simp only[go_sem,ds];refine⟨Qj,_,Qz.frame (by simp only[go_sem,Zb]),c,es,_,M.to λj=>?_,rfl⟩;rw[Zh];by_cases hj:j=x.iD
   .rw[Qd hj,hj,lN]
   .rw[Qc hj]
 .have Jf:k=T.length:=ω;have dk:=QI Qj;rw[Jf,q9]at M;apply Qg hb;simp only[go_sem,dk];apply Qn hb;refine⟨⟨h.length,h.length+1,h.length+2,c,0,0,es,[],[],λ_=>none,VD rfl,KV rfl,M,VD rfl,KW.nil.to (λj=>by simp[yS]),VD rfl,KW.nil.to (λj=>rfl),(λ_ _ e=>nomatch e),(λk i _=>by simp[qO,Ja]),(λ_ _ _ e=>nomatch e),ω,ω,ω,ω,ω,ω,(λ_ _ e=>nomatch e),by show h.length<=_;omega,QB _,by show h.length<=_;omega,by show h.length<=_;omega,(λ_ _ e=>nomatch e)⟩,_,rfl⟩
@[go_sem] def Er(a m:Nat):Ob:=⟨.one,0,2,1,λ_=>[.ptr a 0 0 0,.mref m 0]⟩
def CA(x:It):Int × D:=(x.ki,.agg x.cells)
structure Ix (S:Nat->Prop) (h:List Ob) (p a m:Nat) (t:Tr) (c:Nat) (es:List Zt) (L:List It):Prop where
 o:h[p]? = some (Er a m)
 av:yQ h a t L
 mo:h[m]? = some (QK .i64 c es)
 mp:XW es (L.map CA)
 vi:∀x∈L,x.vi=x.ki
 pa:p≠a
 pm:p≠m
 am:a≠m
 pt:p ∉ t.QJ
 mt:m ∉ t.QJ
 sp:S p
 sa:S a
 sm:S m
 st:∀l∈t.QJ,S l
def WA(S:Nat->Prop)(h:List Ob)(p:Nat)(L:List It):Prop:=∃a m t c es,Ix S h p a m t c es L
def QhA{L:List It}(id:Int):look (L.map CA) id=(L.find? λx=>x.ki==id).map λx=>.agg x.cells:=by
 unfold look;rw[List.find?_map,Hi];rfl
def Vd(id:Int)(L:List It):List It:=L.filter λx=>x.ki != id
def XX(id:Int)(vt fit:Nat)(L:List It):List It:=XV ⟨vt,id,fit,id⟩ (Vd id L)
def Ix.ids{S}{h}{p a m}{t}{c}{es}{L:List It}(T:Ix S h p a m t c es L):(L.map It.ki).Nodup:=by
 have:=T.mp.nd;rwa [Fl]at this
def oS{L:List It}(hn:(L.map It.ki).Nodup){x:It}(hx:x∈L):W9 x.ka x.ki L=Vd x.ki L:=by
 unfold W9 Vd;apply Um;intro y hy;by_cases h:y.ki=x.ki
 .have kH:y=x:=by
   have:∀{l:List It},(l.map It.ki).Nodup->∀{u v:It},u∈l->v∈l->u.ki=v.ki->u=v:=by
    intro l;induction l with
    | nil=>intro _ u v hu;cases hu
    | cons a l ih=>
     intro hn u v hu hv e;simp only[JQ,Zz,Z2,Dm,not_and]at hn;rcases QD.1 hu with h1|h1<;>rcases QD.1 hv with h2|h2
     .rw[h1,h2]
     .exact absurd (by rw[<- e,h1]) (hn.1 v h2)
     .exact absurd (by rw[e,h2]) (hn.1 u h1)
     .exact ih hn.2 h1 h2 e
   exact this hn hy hx h
  subst kH;simp[Bi]
 .have hb:(y.ki==x.ki)=false:=by simpa using h
  simp[Bi,hb,bne]
def oT{L:List It}{id}(h:(L.find? λx=>x.ki==id)=none):Vd id L=L:=by
 unfold Vd;rw[yi];intro x hx;have:=jm.1 h x hx;simpa using this
def oU(L)(a)(id):Yi a id (Vd id L)=none:=by
 unfold Yi Vd;rw[jm];intro x hx hk;simp only[Jt,bne_iff_ne,ne_eq]at hx;exact hx.2 (wu.1 hk).2
def QeZ(y):∀L:List It,(XV y L).Perm (y::L)
 | []=>O8 _
 | z::L=>by
  simp only[XV];split
  .exact(List.Perm.cons _ (QeZ y L)).trans (List.Perm.swap _ _ _)
  .exact O8 _
def oV(id)(L:List It):Bl (L.map CA) id=(Vd id L).map CA:=by
 unfold Bl Vd;rw[Pf];rfl
def yQ.set{h:List Ob}{tl}{t:Tr}{L}(A:yQ h tl t L){m}(o)(h1:m≠tl)(h2:m ∉ t.QJ):yQ (h.set m o) tl t L:=⟨(Qr h1).trans A.o,A.is.set o h2,A.list,A.nd,A.out,A.sorted⟩
def Qs4{id:Int}{vt fit}{L:List It}:(Em (L.map CA) id (.agg (It.mk vt id fit id).cells)).Perm ((XX id vt fit L).map CA):=by
 unfold Em XX;rw[oV];exact((QeZ ⟨vt,id,fit,id⟩ (Vd id L)).map CA).symm
def oW(id)(L:List It):(Vd id L).length<=L.length:=Xx _ _
def Ix.fin{S}{h H H2 h8}{p a m c c'}{t t' t''}{es es'}{L L2}(T:Ix S h p a m t c es L)(s0:Step S h H)
  (hp:H[p]? = some (Er a m)) (hm:m<H.length) (hH:H2=H.set m (QK .i64 c' es')) (mt:m ∉ t'.QJ) (pt:p ∉ t'.QJ) (st:∀l∈t'.QJ,more S h l) (kP:XW es' (L2.map CA)) (hvi:∀x∈L2,x.vi=x.ki)
  (A:RY H2 a t' L2 h8 t''):WA (more S h) h8 p L2/\Step S h h8:=by
 have e2:H2.length=H.length:=by rw[hH,Wu]
 have hl:=s0.len;have de:H2[p]? = some (Er a m):=by rw[hH,Qr (Q3 T.pm)];exact hp
 have YE:H2[m]? = some (QK .i64 c' es'):=by rw[hH,QE hm]
 have JY:∀l,H2.length<=l->h.length<=l:=λl h1=>ω;have Zh:=Qb T.o;have yv:=Qb T.mo;refine⟨⟨a,m,t'',c',es',?_,A.is,?_,kP,hvi,T.pa,T.pm,T.am,?_,?_,.inl T.sp,.inl T.sa,.inl T.sm,?_⟩,⟨λl h1 h2=>?_,by have:=A.len;omega⟩⟩
 .rw[A.keep p ω T.pa pt];exact de
 .rw[A.keep m ω (Q3 T.am) mt];exact YE
 .intro h1;rcases A.mem p h1 with h2|h2
  .exact pt h2
  .omega
 .intro h1;rcases A.mem m h1 with h2|h2
  .exact mt h2
  .omega
 .intro l h1;rcases A.mem l h1 with h2|h2
  .exact st l h2
  .exact .inr (JY l h2)
 .have na:l≠a:=by rintro rfl;exact h2 T.sa
  have nm:l≠m:=by rintro rfl;exact h2 T.sm
  have nt:l ∉ t'.QJ:=λh3=>by
   rcases st l h3 with h4|h4
   .exact h2 h4
   .omega
  rw[A.keep l ω na nt,hH,Qr (Q3 nm)];exact s0.keep l h1 h2
def Ix.done{S}{h H H2 h8}{p a m c c'}{t t' t''}{es es'}{L}{id}{vt fit}(T:Ix S h p a m t c es L)(s0:Step S h H)
  (hp:H[p]? = some (Er a m)) (hm:m<H.length) (hH:H2=H.set m (QK .i64 c' es')) (mt:m ∉ t'.QJ) (pt:p ∉ t'.QJ) (st:∀l∈t'.QJ,more S h l) (kP:XW es' (Em (L.map CA) id (.agg (It.mk vt id fit id).cells)))
  (A:RY H2 a t' (XX id vt fit L) h8 t''):WA (more S h) h8 p (XX id vt fit L)/\Step S h h8:=
 T.fin s0 hp hm hH mt pt st (kP.to Qs4) (λx hx=>by
  rcases Gn.1 hx with rfl|hx
  .rfl
  .exact T.vi x (Jt.1 hx).1) A
def Qs6{S}{h}{p}{L:List It}(T:WA S h p L)(id)(vt fit)(hs:L.length<400000):
  QH prog 284 h [.ptr p 0 0 0,Qa id,u64 vt,u64 fit] (λd h'=>WA (more S h) h' p (XX id vt fit L)/\Step S h h'):=by
 obtain⟨a,m,t,c,es,T⟩:=T;have ho:=T.o;have qS:=T.mo;have ha:=T.av.o;have hk:=T.mp.look id;rw[QhA]at hk;cases hf:L.find? λx=>x.ki==id with
 | none=>
  rw[hf,YV]at hk;have qm:=oT hf;obtain⟨c',es',e1,M'⟩:=T.mp.set .i64 c id (.agg (It.mk vt id fit id).cells);have e2:JZ .i64 c es id (.agg [.raw (.int .u64 vt),.raw (.int .i64 id),.raw (.int .u64 fit),.raw (.int .i64 id)])=QK .i64 c' es':=e1;refine QQ func284 ntmps284 results284 λbase w pl hb=>?_;have Ql:=Qb ho;have z6:=Qb qS;simp only[go_sem,Qe,ho,Ql,qS,z6,hk];apply QF hb ut;simp only[go_sem,Qe,ho,Ql,qS,z6];simp only[e2];apply Vk [8] hb [0,1,2,3,4,5,6,7,1008,9] [];simp only[go_sem,Qe,ho,Ql,Qr (Q3 T.pm)];refine jZ hb m6 (RZ (tl:=a) (t:=t) (L:=Vd id L) (by rw[qm];exact(T.av.set _ (Q3 T.am) T.mt).app _) ⟨vt,id,fit,id⟩ (oU L vt id) (by have:=oW id L;omega)) λd h8 hR=>?_;obtain⟨rfl,t'',A8⟩:=hR;apply ZA hb;exact T.done (H:=h++_) (Step.app S h _) (QG Ql |>.trans ho) ξ (Cd z6).symm T.mt T.pt (λl hl=>.inl (T.st l hl)) M' A8
 | some x=>
  rw[hf,KK]at hk;obtain⟨c',es',e1,M'⟩:=T.mp.set .i64 c id (.agg (It.mk vt id fit id).cells);have e2:JZ .i64 c es id (.agg [.raw (.int .u64 vt),.raw (.int .i64 id),.raw (.int .u64 fit),.raw (.int .i64 id)])=QK .i64 c' es':=e1;refine QQ func284 ntmps284 results284 λbase w pl hb=>?_;have Ql:=Qb ho;have z6:=Qb qS;simp only[go_sem,Qe,ho,Ql,qS,z6,hk];apply Vk [6] hb [0,1,2,3,4,5,1006] [];simp only[go_sem,Qe,ho,Ql];have WH:x∈L:=kF hf;have Q8:x.ki=id:=by have:=vJ hf;simpa using this
  have Sg:W9 x.ka id L=Vd id L:=by rw[<- Q8];exact oS T.ids WH
  have QA:Yi x.ka id L≠none:=λe=>by
   unfold Yi at e;have:=jm.1 e x WH;exact this (wu.2 ⟨rfl,Q8⟩)
  have oX:∀l∈t.QJ,l<h.length:=T.av.is.lt;have YH:=Qb ha;refine xI hb m9 rfl ?_ (oH (tl:=a) (t:=t) (L:=L) (T.av.app _) x.ka id QA ω) rfl λd h6 hR=>?_
  .simp only[go_sem,Q8]
  obtain⟨rfl,t',A6⟩:=hR;rw[Sg]at A6;have QEL:h.length+2<=h6.length:=by have:=A6.len;simpa using this
  have k6:∀l,l<h.length->l≠a->l ∉ t.QJ->h6[l]? = h[l]? := λl h1 h2 h3=>(A6.keep l ξ h2 h3).trans (QG h1);have dV:h6[p]? = _:=(k6 p Ql T.pa T.pt).trans ho;have hm6:h6[m]? = _:=(k6 m z6 (Q3 T.am) T.mt).trans qS;have Gw:=(A6.keep h.length σ ω (λh1=>by have:=oX _ h1;omega)).trans (KV rfl);have QEM:=Qb dV;have Qs7:=Qb hm6;have dW:=Qb Gw;have mt6:m ∉ t'.QJ:=λh1=>by
   rcases A6.mem m h1 with h2|h2
   .exact T.mt h2
   .simp only[ZW]at h2;omega
  have pt6:p ∉ t'.QJ:=λh1=>by
   rcases A6.mem p h1 with h2|h2
   .exact T.pt h2
   .simp only[ZW]at h2;omega
  have Es:m≠h.length:=ω;apply ZA hb;apply QF hb ut;simp only[go_sem,dV,hm6,Gw];simp only[e2];apply Vk [8] hb [0,1,2,3,4,5,6,7,1008,9] [];simp only[go_sem,dV,Gw,Qr (Q3 T.pm),Qr Es];refine jZ hb m6 (RZ (tl:=a) (t:=t') (L:=Vd id L) (A6.is.set _ (Q3 T.am) mt6) ⟨vt,id,fit,id⟩ (oU L vt id) (by have:=oW id L;omega)) λd h8 hR=>?_;obtain⟨rfl,t'',A8⟩:=hR;apply ZA hb;refine T.done (H:=h6) ⟨λl h1 h2=>k6 l h1 (by rintro rfl;exact h2 T.sa) (λh3=>h2 (T.st l h3)),ω⟩ dV Qs7 rfl mt6 pt6 (λl hl=>?_) M' A8;rcases A6.mem l hl with h1|h1
  .exact .inl (T.st l h1)
  .simp only[ZW]at h1;exact .inr ω
def KC{h F:List Ob}(hF:F=h.map Ob.ro)(l:Nat)(o:Ob)(e:(h.map Ob.ro)[l]? = some o):(F.map Ob.ro)[l]? = some o:=by
 have:=Gl (g:=[]) hF l o e;rwa [JI]at this
structure Qs9 (h:List Ob) (p a m:Nat) (t:Tr) (c:Nat) (es:List Zt) (L:List It):Prop where
 o:(h.map Ob.ro)[p]? = some (Er a m).ro
 ao:(h.map Ob.ro)[a]? = some (wB t).ro
 is:zk h t
 list:t.list=L
 sorted:Vc L
 mo:(h.map Ob.ro)[m]? = some (QK .i64 c es).ro
 mp:XW es (L.map CA)
def Et(h:List Ob)(p:Nat)(L:List It):Prop:=∃a m t c es,Qs9 h p a m t c es L
def WA.toR{S}{h}{p}{L}:WA S h p L->Et h p L:=λ⟨a,m,t,c,es,T⟩=>
 ⟨a,m,t,c,es,ZC T.o,ZC T.av.o,T.av.is.toR,T.av.list,T.av.sorted,ZC T.mo,T.mp⟩
def Et.more{h h':List Ob}{p}{L}(e:∀(l:Nat) (o:Ob),(h.map Ob.ro)[l]? = some o->(h'.map Ob.ro)[l]? = some o):Et h p L->Et h' p L:=λ⟨a,m,t,c,es,T⟩=>
 ⟨a,m,t,c,es,e _ _ T.o,e _ _ T.ao,T.is.more e,T.list,T.sorted,e _ _ T.mo,T.mp⟩
def WA.frame{S}{h h':List Ob}{p}{L}(e:∀l,S l->l<h.length->h'[l]? = h[l]?):WA S h p L->WA S h' p L:=λ⟨a,m,t,c,es,T⟩=>
 have k:∀l o,S l->h[l]? = some o->h'[l]? = some o:=λl o h1 h2=>(e l h1 (Qb h2)).trans h2
 ⟨a,m,t,c,es,k _ _ T.sp T.o,⟨k _ _ T.sa T.av.o,T.av.is.frame λl hl=>e l (T.st l hl) (T.av.is.lt l hl),T.av.list,T.av.nd,T.av.out,T.av.sorted⟩,k _ _ T.sm T.mo,T.mp,T.vi,T.pa,T.pm,T.am,T.pt,T.mt,T.sp,T.sa,T.sm,T.st⟩
def WA.mono{S S'}{h}{p}{L}(e:∀l,S l->S' l):WA S h p L->WA S' h p L:=λ⟨a,m,t,c,es,T⟩=>
 ⟨a,m,t,c,es,T.o,T.av,T.mo,T.mp,T.vi,T.pa,T.pm,T.am,T.pt,T.mt,e _ T.sp,e _ T.sa,e _ T.sm,λl hl=>e l (T.st l hl)⟩
section
variable {h:List Ob}{p:Nat}{L:List It}(T:Et h p L)
include T
theorem Qta(now):Q6 prog 286 h [.ptr p 0 0 0,u64 now] (λd=>d=.tup [Qa ((L.find? λx=>decide (x.va<=min now 9223372036854775807)).getD default).ki,QT (L.find? λx=>decide (x.va<=min now 9223372036854775807)).isSome]):=by
 obtain⟨a,m,t,c,es,T⟩:=T;obtain⟨ho,ha,is,hl,hs,hm,mp⟩:=T;have e1:min (now:Int) 9223372036854775807=((min now 9223372036854775807:Nat):Int):=ω;have xl:=ha;refine xD func286 ntmps286 results286 λbase w pl F hF Q7 hb=>?_;rw[<- hF]at ho ha;have Ql:=Qb ho;have YH:=Qb ha;simp only[go_sem,ho,e1];apply ZQ hb Qrg (QsK (KC hF _ _ xl) (is.more (KC hF)) (min now 9223372036854775807));apply JH hb;subst hl;exact⟨_,rfl,rfl⟩
theorem Qtb:Q6 prog 232 h [.ptr p 0 0 0] (λd=>d=.tup [u64 (L.head?.getD default).ka,QT L.head?.isSome]):=by
 obtain⟨a,m,t,c,es,T⟩:=T;obtain⟨ho,ha,is,hl,hs,hm,mp⟩:=T;have xl:=ha;refine xD func232 ntmps232 results232 λbase w pl F hF Q7 hb=>?_;rw[<- hF]at ho ha;have Ql:=Qb ho;have YH:=Qb ha;simp only[go_sem,ho];apply ZQ hb QdG (QeE (KC hF _ _ xl) (is.more (KC hF)));apply JH hb;subst hl;exact⟨_,rfl,rfl⟩
theorem oY:Q6 prog 249 h [.ptr p 0 0 0] (λd=>d=Qa L.length):=by
 obtain⟨a,m,t,c,es,T⟩:=T;obtain⟨ho,ha,is,hl,hs,hm,mp⟩:=T;have e1:es.length=L.length:=by rw[mp.len,J1]
 refine xD func249 ntmps249 results249 λbase w pl F hF Q7 hb=>?_;rw[<- hF]at ho ha hm;have Ql:=Qb ho;have YH:=Qb ha;have Zg:=Qb hm;simp only[go_sem,ho,hm,e1];exact⟨[],σ⟩
def yT(L:List It):Nat:=L.foldl (λo x=>min o x.va) never
omit T in
theorem oZ:∀(L:List It) (o:Nat),L.foldl (λo x=>min o x.va) o<=o/\(∀x∈L,L.foldl (λo x=>min o x.va) o<=x.va)/\(L.foldl (λo x=>min o x.va) o=o\/∃x∈L,L.foldl (λo x=>min o x.va) o=x.va)
 | [],o=>⟨QB _,σ,.inl rfl⟩
 | y::L,o=>by
  obtain⟨h1,h2,h3⟩:=oZ L (min o y.va);simp only[kD];refine⟨ω,λx hx=>?_,?_⟩
  .rcases QD.1 hx with rfl|hx
   .omega
   .exact h2 x hx
  .rcases h3 with h3|⟨x,hx,h3⟩
   .rw[h3];by_cases hle:o<=y.va
    .exact .inl (Nat.min_eq_left hle)
    .exact .inr ⟨y,σ,Uv ω⟩
   .exact .inr ⟨x,by simp[hx],h3⟩
omit T in
theorem Qtc{x:It}{L}(h:VL x L):yT L=min x.va never:=by
 obtain⟨h1,h2,h3⟩:=oZ L never;unfold yT;have h4:=h2 x h.mem;rcases h3 with h3|⟨y,hy,h3⟩
 .omega
 .have:=h.va hy;omega
theorem o4(hk:∀x∈L,x.ka<=18446744073709551615):Q6 prog 196 h [.ptr p 0 0 0] (λd=>d=u64 (yT L)):=by
 have T0:=T;obtain⟨a,m,t,c,es,T⟩:=T;obtain⟨ho,ha,is,hl,hs,hm,mp⟩:=T;have xl:=ha;by_cases hn:L=[]
 .have d0:((L.length:Int)==0)=true:=by simp[hn]
  refine xD func196 ntmps196 results196 λbase w pl F hF Q7 hb=>?_;rw[<- hF]at ho ha;have Ql:=Qb ho;have YH:=Qb ha;simp only[go_sem];apply ZQ hb mV (oY (T0.more (KC hF)));apply Qg hb;simp only[go_sem,d0];subst hn;exact⟨[],by simp[yT,never]⟩
 .have d0:((L.length:Int)==0)=false:=by simp[hn]
  refine xD func196 ntmps196 results196 λbase w pl F hF Q7 hb=>?_;rw[<- hF]at ho ha;have Ql:=Qb ho;have YH:=Qb ha;simp only[go_sem];apply ZQ hb mV (oY (T0.more (KC hF)));apply Qg hb;simp only[go_sem,ho,d0];apply Qn hb;apply ZQ hb Qdz (QeG (KC hF _ _ xl) (is.more (KC hF)) 18446744073709551615);apply JH hb;have ZB:=Tr.RQ 18446744073709551615 t none [] (by rw[hl];exact hs) rfl;rw[hl,zK,yi.2 (λx hx=>by simpa using hk x hx)]at ZB;refine⟨_,rfl,?_⟩;cases Qe2:t.Yj 18446744073709551615 none with
  | none=>rw[Qe2]at ZB;exact absurd ZB hn
  | some x=>
   rw[Qe2]at ZB;rw[Qtc ZB];simp only[KR,never];congr 2;omega
end
def dX(id:Int)(L:List It):Bool:=(L.find? λx=>x.ki==id).isSome
def Qtd{S}{h}{p}{L:List It}(T:WA S h p L)(id)(hs:L.length<400000):
  QH prog 293 h [.ptr p 0 0 0,Qa id] (λd h'=>d=Qa (if dX id L then 0 else 6)/\WA (more S h) h' p (Vd id L)/\Step S h h'):=by
 have T0:=T;obtain⟨a,m,t,c,es,T⟩:=T;have ho:=T.o;have qS:=T.mo;have ha:=T.av.o;have hk:=T.mp.look id;rw[QhA]at hk;unfold dX;cases hf:L.find? λx=>x.ki==id with
 | none=>
  rw[hf,YV]at hk;refine QQ func293 ntmps293 results293 λbase w pl hb=>?_;have Ql:=Qb ho;have z6:=Qb qS;simp only[go_sem,Qe,ho,qS,hk];rw[oT hf];exact⟨rfl,(T0.frame λl h1 h2=>QG h2).mono λl hl=>.inl hl,Step.app S h _⟩
 | some x=>
  rw[hf,KK]at hk;have WH:x∈L:=kF hf;have Q8:x.ki=id:=by have:=vJ hf;simpa using this
  have Sg:W9 x.ka id L=Vd id L:=by rw[<- Q8];exact oS T.ids WH
  have QA:Yi x.ka id L≠none:=λe=>by
   unfold Yi at e;have:=jm.1 e x WH;exact this (wu.2 ⟨rfl,Q8⟩)
  have oX:∀l∈t.QJ,l<h.length:=T.av.is.lt;have YH:=Qb ha;have M':=T.mp.del id;rw[oV]at M';refine QQ func293 ntmps293 results293 λbase w pl hb=>?_;have Ql:=Qb ho;have z6:=Qb qS;simp only[go_sem,Qe,ho,Ql,qS,z6,hk];apply Vk [6] hb [0,1,2,3,4,5,1006,7] [];simp only[go_sem,Qe,ho,Ql,Qr (Q3 T.pm)];refine xI hb m9 rfl ?_ (oH (tl:=a) (t:=t) (L:=L) ((T.av.set _ (Q3 T.am) T.mt).app _) x.ka id QA ω) rfl λd h6 hR=>?_
  .simp only[go_sem,Q8]
  obtain⟨rfl,t',A6⟩:=hR;rw[Sg]at A6;apply ZA hb;exact⟨rfl,T.fin (H:=h++_) (Step.app S h _) ((QG Ql).trans ho) ξ (Cd z6).symm T.mt T.pt (λl hl=>.inl (T.st l hl)) M' (λy hy=>T.vi y (Jt.1 hy).1) A6⟩
def Qe3(h:List Ob):QH prog 175 h [] (λd h'=>d=.ptr h.length 0 0 0/\h'=h++[wB .nil]):=by
 refine QQ func175 ntmps175 results175 λbase w pl hb=>?_;simp only[go_sem]
def Qe4{S}{h}{p}{L:List It}(T:WA S h p L)(id)(hs:L.length<400000):
  QH prog 280 h [.ptr p 0 0 0,Qa id] (λd h'=>d=Qa (if dX id L then 0 else 6)/\WA (more S h) h' p (Vd id L)/\Step S h h'):=by
 have T0:=T;obtain⟨a,m,t,c,es,T⟩:=T;have ho:=T.o;have qS:=T.mo;have ha:=T.av.o;have hk:=T.mp.look id;rw[QhA]at hk;unfold dX;cases hf:L.find? λx=>x.ki==id with
 | none=>
  rw[hf,YV]at hk;refine QQ func280 ntmps280 results280 λbase w pl hb=>?_;have Ql:=Qb ho;have z6:=Qb qS;simp only[go_sem,Qe,ho,qS,hk];rw[oT hf];exact⟨rfl,(T0.frame λl h1 h2=>QG h2).mono λl hl=>.inl hl,Step.app S h _⟩
 | some x=>
  rw[hf,KK]at hk;have WH:x∈L:=kF hf;have Q8:x.ki=id:=by have:=vJ hf;simpa using this
  have Sg:W9 x.ka id L=Vd id L:=by rw[<- Q8];exact oS T.ids WH
  have QA:Yi x.ka id L≠none:=λe=>by
   unfold Yi at e;have:=jm.1 e x WH;exact this (wu.2 ⟨rfl,Q8⟩)
  have oX:∀l∈t.QJ,l<h.length:=T.av.is.lt;have YH:=Qb ha;have M':=T.mp.del id;rw[oV]at M';refine QQ func280 ntmps280 results280 λbase w pl hb=>?_;have Ql:=Qb ho;have z6:=Qb qS;simp only[go_sem,Qe,ho,Ql,qS,z6,hk];apply Vk [6] hb [0,1,2,3,4,5,1006,7] [];simp only[go_sem,Qe,ho,Ql,Qr (Q3 T.pm)];refine xI hb m9 rfl ?_ (oH (tl:=a) (t:=t) (L:=L) ((T.av.set _ (Q3 T.am) T.mt).app _) x.ka id QA ω) rfl λd h6 hR=>?_
  .simp only[go_sem,Q8]
  obtain⟨rfl,t',A6⟩:=hR;rw[Sg]at A6;apply ZA hb;exact⟨rfl,T.fin (H:=h++_) (Step.app S h _) ((QG Ql).trans ho) ξ (Cd z6).symm T.mt T.pt (λl hl=>.inl (T.st l hl)) M' (λy hy=>T.vi y (Jt.1 hy).1) A6⟩
section
variable {h:List Ob}{p:Nat}{L:List It}(T:Et h p L)
include T
theorem Qe5:Q6 prog 296 h [.ptr p 0 0 0] (λd=>d=Qa L.length):=by
 obtain⟨a,m,t,c,es,T⟩:=T;obtain⟨ho,ha,is,hl,hs,hm,mp⟩:=T;have e1:es.length=L.length:=by rw[mp.len,J1]
 refine xD func296 ntmps296 results296 λbase w pl F hF Q7 hb=>?_;rw[<- hF]at ho ha hm;have Ql:=Qb ho;have YH:=Qb ha;have Zg:=Qb hm;simp only[go_sem,ho,hm,e1];exact⟨[],σ⟩
theorem Qte(now):Q6 prog 285 h [.ptr p 0 0 0,u64 now] (λd=>∃o,xH o (L.filter λx=>decide (x.ka<=min now 9223372036854775807))/\d=.tup [Qa (o.getD default).ki,QT o.isSome]):=by
 obtain⟨a,m,t,c,es,T⟩:=T;obtain⟨ho,ha,is,hl,hs,hm,mp⟩:=T;have e1:min (now:Int) 9223372036854775807=((min now 9223372036854775807:Nat):Int):=ω;have xl:=ha;have ZB:=Tr.RQ (min now 9223372036854775807) t none [] (by rw[hl];exact hs) rfl;rw[hl,zK]at ZB;refine Q6.mono (R:=λd=>d=.tup [Qa ((t.Yj (min now 9223372036854775807) none).getD default).ki,QT (t.Yj (min now 9223372036854775807) none).isSome]) ?_ (λd hd=>⟨_,ZB,hd⟩);refine xD func285 ntmps285 results285 λbase w pl F hF Q7 hb=>?_;rw[<- hF]at ho ha;have Ql:=Qb ho;have YH:=Qb ha;simp only[go_sem,ho,e1];apply ZQ hb Qdz (QeG (KC hF _ _ xl) (is.more (KC hF)) (min now 9223372036854775807));apply JH hb;exact⟨_,rfl⟩
theorem Qtf:Q6 prog 247 h [.ptr p 0 0 0] (λd=>d=u64 (match L.head? with|some x=>min x.ka never|none=>never)):=by
 have T0:=T;obtain⟨a,m,t,c,es,T⟩:=T;obtain⟨ho,ha,is,hl,hs,hm,mp⟩:=T;have xl:=ha;cases hL:L with
 | nil=>
  have d0:((L.length:Int)==0)=true:=by simp[hL]
  refine xD func247 ntmps247 results247 λbase w pl F hF Q7 hb=>?_;rw[<- hF]at ho ha;have Ql:=Qb ho;have YH:=Qb ha;simp only[go_sem];apply ZQ hb QdJ (Qe5 (T0.more (KC hF)));apply Qg hb;simp only[go_sem,d0];exact⟨[],by simp[never]⟩
 | cons x M=>
  have d0:((L.length:Int)==0)=false:=by simp[hL];omega
  refine xD func247 ntmps247 results247 λbase w pl F hF Q7 hb=>?_;rw[<- hF]at ho ha;have Ql:=Qb ho;have YH:=Qb ha;simp only[go_sem];apply ZQ hb QdJ (Qe5 (T0.more (KC hF)));apply Qg hb;simp only[go_sem,ho,d0];apply Qn hb;apply ZQ hb QdG (QeE (KC hF _ _ xl) (is.more (KC hF)));apply JH hb;refine⟨_,rfl,?_⟩;rw[hl,hL];congr 2;show min (x.ka:Int) 9223372036854775808=((min x.ka never:Nat):Int);simp only[never];omega
end
def Qe6{S}{h}{p}{L:List It}(T:WA S h p L)(id)(vt fit)(hs:L.length<400000):
  QH prog 231 h [.ptr p 0 0 0,Qa id,u64 vt,u64 fit] (λd h'=>WA (more S h) h' p (XX id vt fit L)/\Step S h h'):=by
 have T0:=T;obtain⟨a,m,t,c,es,T⟩:=T;have ho:=T.o;refine QQ func231 ntmps231 results231 λbase w pl hb=>?_;have Ql:=Qb ho;simp only[go_sem];refine Zw hb QdF (Qe4 T0 id hs) λd h2 hR=>?_;obtain⟨rfl,T2,s2⟩:=hR;obtain⟨a,m,t,c,es,T⟩:=T2;have ho:=T.o;have qS:=T.mo;have ha:=T.av.o;have Ql:=Qb ho;have z6:=Qb qS;have qm:Vd id (Vd id L)=Vd id L:=by unfold Vd;rw[List.filter_filter];simp
 obtain⟨c',es',e1,M'⟩:=T.mp.set .i64 c id (.agg (It.mk vt id fit id).cells);have e2:JZ .i64 c es id (.agg [.raw (.int .u64 vt),.raw (.int .i64 id),.raw (.int .u64 fit),.raw (.int .i64 id)])=QK .i64 c' es':=e1;apply JH hb;apply QF hb ut;simp only[go_sem,Qe,ho,Ql,qS,z6];simp only[e2];apply Vk [8] hb [0,1,2,3,4,5,6,7,1008,9] [];simp only[go_sem,Qe,ho,Ql,Qr (Q3 T.pm)];refine jZ hb m6 (RZ (tl:=a) (t:=t) (L:=Vd id L) ((T.av.set _ (Q3 T.am) T.mt).app _) ⟨vt,id,fit,id⟩ (oU L vt id) (by have:=oW id L;omega)) λd h8 hR=>?_;obtain⟨rfl,t'',A8⟩:=hR;apply ZA hb;have Yv:XX id vt fit (Vd id L)=XX id vt fit L:=by unfold XX;rw[qm]
 have hD:=T.done (H:=h2++_) (h8:=h8) (t'':=t'') (Step.app _ h2 _) ((QG Ql).trans ho) ξ (Cd z6).symm T.mt T.pt (λl hl=>.inl (T.st l hl)) M' (by rw[Yv];exact A8);rw[Yv]at hD;have Jp:=s2.len;exact⟨hD.1.mono λl hl=>hl.elim (λh3=>h3) λh3=>.inr ω,s2.trans hD.2⟩
end Go.Fg.X
namespace Go.Fg
open Go.RowKit (Below)
section
variable {P:Program}{L:Z8}{base nt:Nat}{s:St}{o:Oper}
def Qtg{t e:TypeId}{y:Ty}{k:IntKind}(ht:P.underlying t=some (.slice e))(hy:WD P e y)(hz:y.zero.length=y.size)(hs:0<y.size)(w:World)(n:Nat)
  (jw:n<=4294967296) (zP:y.bytes<=1024) :
  (Instr.makeSlice t (.int k n) (.int k n)).run P w=.ok (.slice (some ⟨w.heap.size,0,none⟩) n n) (w.alloc (.cells (flat n y.size λ_ j=>QZ y.zero j).toArray e)):=by
 obtain⟨z,xj,Cm⟩:=hy.zeroValue;obtain⟨i,hi,WO,VH⟩:=hy.typeInfo w;have Z9:∀w,(typeInfo e).run P w=.ok i w:=λw=>by
  have h4:=hy.info;cases hx:P.info? e with
  | none=>rw[hx]at h4;cases h4
  | some k=>
   simp[typeInfo,hx]at hi ⊢;exact hi
 have hw:IntKind.i64.wrap (n:Int)=n:=by rw[IntKind.wrap_i64];omega
 have og:¬ (281474976710656<(i.bytes:Int)*(n:Int)):=by
  have hmul:y.bytes*n<=1024*4294967296:=qC zP jw;rw[<- Aq,VH];omega
 have RU:¬ ((n:Int)<0):=ω;have Dw:z.cells.size=y.size:=by rw[<- hz,<- xj];simp
 have jW:(flat n y.size λ_ j=>QZ y.zero j).toArray=(Array.range (n*y.size)).map (z.cells[· % z.cells.size]!):=by
  apply Array.ext
  .simp[qF]
  .intro j h1 h2;simp only[Fm,qF]at h1;obtain⟨d1,d2,d3⟩:=div_lt h1;have RV:y.zero=z.cells.toList:=xj.symm;have hj:j % y.size<z.cells.size:=by rw[Dw];exact d2
   simp[flat,QZ,RV,Q5,Dw];rw[getElem!_pos z.cells _ hj,zJ hj];rfl
 rw[jW];by_cases hn:n=0
 .subst hn;have dY:IntKind.i64.wrap 0=0:=rfl;simp[Instr.makeSlice,run_underlying ht,hy.sizeOf,Z9,asInt,asIntOf,newRow,dY];congr 2;apply Array.ext<;>simp
 .have FJ:¬ (n*y.size=0):=Nat.mul_ne_zero hn ω;simp[Instr.makeSlice,run_underlying ht,hy.sizeOf,Z9,Cm,asInt,asIntOf,hw,RU,FJ,og,newRow]
def Qth(hL:Z5 P L){t e:TypeId}{x0 x:Operand}{n:Nat}{a b:Nat}{zt:List Value}{y:Ty}{k:IntKind}(ho:o.op=.makeSlice t x x)(hx:Qo s.fr x=.raw (.int k n))
  (ht:ty L t=some ⟨.slice e,a,b,zt⟩) (Wv:ty L e=some y) (hz:y.zero.length=y.size) (hs:0<y.size) (jw:n<=4294967296) (zP:y.bytes<=1024) :
  zO P base nt o s (s.h++[⟨.arr,0,y.size,n,λ_=>y.zero.map J4⟩]) (.ref s.h.length 0 0 n):=by
 intro Z pl ac w r KL;have Dv:=r.eval x;rw[hx]at Dv;have hv:=Jn Dv;have hy:=hL _ _ Wv;have Zh:pl.length=s.h.length:=r.o.len;have Ze:=Qtg (k:=k) (xi (hL _ _ ht) rfl) hy hz hs w n jw zP;have e1:∀b,b<w.heap.size->(w.alloc (.cells (flat n y.size λ_ j=>QZ y.zero j).toArray e)).heap[b]? = w.heap[b]? := λb hb=>vP w _ b hb;have JY:(w.alloc (.cells (flat n y.size λ_ j=>QZ y.zero j).toArray e)).heap[w.heap.size]? = some (.cells (flat n y.size λ_ j=>QZ y.zero j).toArray e (0,0)):=heap_alloc_new w _;have T:Tr s.h pl w (s.h++[⟨.arr,0,y.size,n,λ_=>y.zero.map J4⟩]) (pl++[some (w.heap.size,0)]) (w.alloc (.cells (flat n y.size λ_ j=>QZ y.zero j).toArray e)):=Tr.push r.o e1 _ _ (by intro b q h;simp at h;omega);refine⟨.slice (some ⟨w.heap.size,0,none⟩) n n,_,_,.inl ?_,T,Zi.push r.o e1 _ rfl (QB _) KL JY (by simp[qF]) (λi hi=>by simp[hz]) (λi j hi hj=>⟨QZ y.zero j,?_,?_⟩),.ref _ _ _ _ ⟨.arr,0,y.size,n,λ_=>y.zero.map J4⟩ (some (w.heap.size,0)) _ _ σ (by rw[<- Zh];simp) rfl (QB _) (λ_=>.inr ⟨w.heap.size,0,_,_,rfl,σ,JY,?_,QB _⟩),Dt KL _,λ_=>e1⟩
 .simp only[execOp,ho,hv,Ze,Sem.run_bind,Result.andThen_ok,Sem.run_pure]
 .have hg:=Fz (vs:=λ_ j=>QZ y.zero j) hi hj;rw[JD];simpa using hg
 .have V5:j<y.zero.length:=by rw[hz];exact hj
  have:nth (y.zero.map J4) j=J4 (QZ y.zero j):=by simp[nth,QZ,Q5,V5]
  show QC Z _ _ _ (nth (y.zero.map J4) j) _;rw[this];exact .cl _ _ (BU _ _ _)
 .simp[qF]
end
section
variable {P:Program}{L:Z8}{base nt:Nat}{w0:Start}{Q:Exit->St->Prop}
def Qti(hL:Z5 P L)(hb:base<=w0.w.heap.size){k:List Item}{dst:Option Nat}{Ei:TypeId}{pos:String}{after:Array Edge}{gd:Option (Nat × Bool)}{r:List (Oper × G)}{s:St}{t e:TypeId}{x:Operand}{n:Nat}{a b:Nat}{zt:List Value}{y:Ty}{ki:IntKind}
  (hx:Qo s.fr x=.raw (.int ki n)) (ht:ty L t=some ⟨.slice e,a,b,zt⟩) (Wv:ty L e=some y) (hz:y.zero.length=y.size) (hs:0<y.size) (jw:n<=4294967296) (zP:y.bytes<=1024) (hd:Zk nt dst=true)
  (h1:Qv P base nt w0 Q (.ops r::k) .normal ⟨Za s.fr dst (.ref s.h.length 0 0 n),s.h++[⟨.arr,0,y.size,n,λ_=>y.zero.map J4⟩]⟩) :
  Qv P base nt w0 Q (.ops ((⟨dst,.makeSlice t x x,Ei,pos,after,gd⟩,none)::r)::k) .normal s:=by
 simp only[Qv]at h1 ⊢;exact aA hb (Qth (x0:=x) hL rfl hx ht Wv hz hs jw zP) hd h1
end
end Go.Fg
namespace Go.Fg.X
open Go.Proofs Go.Fg
open Go.Proofs.Tryz
@[go_sem] def Si(a room first n:Nat):Ob:=⟨.one,0,3,1,λ_=>[.ref a 0 0 room,Qa first,Qa n]⟩
structure Qtj (S:Nat->Prop) (h:List Ob) (r a room first:Nat) (row:Nat->List D) (L:List Pk):Prop where
 o:h[r]? = some (Si a room first L.length)
 ao:h[a]? = some ⟨.arr,0,6,room,row⟩
 ra:r≠a
 fl:first<room
 len:L.length<=room
 xK:room<=64
 rows:∀i,i<L.length->row ((first+i) % room)=(L.getD i default).cells
 lens:∀i,i<room->(row i).length=6
 sr:S r
 sa:S a
def j5(S:Nat->Prop)(h:List Ob)(r room:Nat)(L:List Pk):Prop:=∃a first row,Qtj S h r a room first row L
structure Iy (h:List Ob) (r a room first:Nat) (row:Nat->List D) (L:List Pk):Prop where
 o:(h.map Ob.ro)[r]? = some (Si a room first L.length).ro
 ao:(h.map Ob.ro)[a]? = some (⟨.arr,0,6,room,row⟩:Ob).ro
 fl:first<room
 len:L.length<=room
 xK:room<=64
 rows:∀i,i<L.length->row ((first+i) % room)=(L.getD i default).cells
def Sj(h:List Ob)(r room:Nat)(L:List Pk):Prop:=∃a first row,Iy h r a room first row L
def j5.toR{S}{h}{r room}{L}:j5 S h r room L->Sj h r room L:=λ⟨a,f,row,T⟩=>⟨a,f,row,ZC T.o,ZC T.ao,T.fl,T.len,T.xK,T.rows⟩
def Iy.more{h h':List Ob}{r a room first}{row}{L}(e:∀(l:Nat) (o:Ob),(h.map Ob.ro)[l]? = some o->(h'.map Ob.ro)[l]? = some o)(T:Iy h r a room first row L):Iy h' r a room first row L:=⟨e _ _ T.o,e _ _ T.ao,T.fl,T.len,T.xK,T.rows⟩
def Sj.more{h h':List Ob}{r room}{L}(e:∀(l:Nat) (o:Ob),(h.map Ob.ro)[l]? = some o->(h'.map Ob.ro)[l]? = some o):Sj h r room L->Sj h' r room L:=λ⟨a,f,row,T⟩=>⟨a,f,row,e _ _ T.o,e _ _ T.ao,T.fl,T.len,T.xK,T.rows⟩
def j5.frame{S}{h h':List Ob}{r room}{L}(e:∀l,S l->l<h.length->h'[l]? = h[l]?):j5 S h r room L->j5 S h' r room L:=λ⟨a,f,row,T⟩=>
 ⟨a,f,row,(e _ T.sr (Qb T.o)).trans T.o,(e _ T.sa (Qb T.ao)).trans T.ao,T.ra,T.fl,T.len,T.xK,T.rows,T.lens,T.sr,T.sa⟩
def Qe7{h:List Ob}{r a room first n:Nat}{row:Nat->List D}(ho:(h.map Ob.ro)[r]? = some (Si a room first n).ro)(ha:(h.map Ob.ro)[a]? = some (⟨.arr,0,6,room,row⟩:Ob).ro)(jW:first<room)(qm:room<=64)(i:Nat)(hi:i<=64):
  Q6 prog 273 h [.ptr r 0 0 0,Qa i] (λd=>d=Qa ((first+i) % room:Nat)):=by
 have e1:IntKind.i64.wrap ((first:Int)+i)=((first+i:Nat):Int):=Zu;refine xD func273 ntmps273 results273 λbase w pl F hF Q7 hb=>?_;rw[<- hF]at ho ha;have Ql:=Qb ho;have YH:=Qb ha;simp only[go_sem];apply QF hb [0,1,2,3,4,5,6,7,8,9,10,11,12];simp only[go_sem,ho,e1];refine⟨ω,[],σ,?_⟩;congr 2
section
variable {h:List Ob}{r a room first:Nat}{row:Nat->List D}{L:List Pk}(T:Iy h r a room first row L)
include T
theorem Qe8(i:Nat)(hi:i<=64):Q6 prog 273 h [.ptr r 0 0 0,Qa i] (λd=>d=Qa ((first+i) % room:Nat)):=Qe7 T.o T.ao T.fl T.xK i hi
theorem Qe9:Q6 prog 272 h [.ptr r 0 0 0] (λd=>d=Qa (room - L.length:Nat)):=by
 obtain⟨ho,ha,jW,DL,qm,NN⟩:=T;have e1:IntKind.i64.wrap ((room:Int) - L.length)=((room - L.length:Nat):Int):=Zu;refine xD func272 ntmps272 results272 λbase w pl F hF Q7 hb=>?_;rw[<- hF]at ho ha;have Ql:=Qb ho;have YH:=Qb ha;simp only[go_sem];apply QF hb O3;simp only[go_sem,ho,e1];exact⟨[],σ⟩
theorem Qtk:Q6 prog 227 h [.ptr r 0 0 0] (λd=>d=Qa L.length):=by
 obtain⟨ho,ha,jW,DL,qm,NN⟩:=T;refine xD func227 ntmps227 results227 λbase w pl F hF Q7 hb=>?_;rw[<- hF]at ho ha;have Ql:=Qb ho;have YH:=Qb ha;simp only[go_sem,ho];exact⟨[],σ⟩
theorem Qfa(i)(hi:i<L.length):Q6 prog 312 h [.ptr r 0 0 0,Qa i] (λd=>d=.tup [.agg (L.getD i default).cells,Qa 0]):=by
 have T0:=T;obtain⟨ho,ha,jW,DL,qm,NN⟩:=T;have d1:decide ((i:Int)<0)=false:=QI ω;have d2:decide (L.length<=i)=false:=QI ω;refine xD func312 ntmps312 results312 λbase w pl F hF Q7 hb=>?_;rw[<- hF]at ho ha;have Ql:=Qb ho;have YH:=Qb ha;simp only[go_sem,Qe,ho,Ql,d1,d2];apply QF hb [0,1,2,3,4,5,1006,7,8,1009,10];simp only[go_sem,Qe,ho,Ql];apply Wz hb mX (Qe8 (T0.more (Gl hF)) i ω);apply ZH hb;simp only[go_sem,Qe,ha,YH];have hm:(first+i) % room<room:=X6 _ ω;have ZG:=NN i hi;refine⟨hm,hm,?_⟩;simp only[go_sem,Qe,ZG];exact⟨_,rfl⟩
end
def o5{f i n:Nat}(h1:f<n)(h2:i<=n):(f+i) % n=if f+i<n then f+i else f+i - n:=by
 split
 .exact jq ‹_›
 .rw[Nat.mod_eq_sub_mod ω,jq ω]
def Qtl{S}{h}{r room}{L}(T:j5 S h r room L)(x):
  QH prog 229 h [.ptr r 0 0 0,.agg x.cells] (λd h'=>d=Qa (if L.length=room then 5 else 0)/\j5 S h' r room (if L.length=room then L else L++[x])/\Step S h h'):=by
 have T0:=T;obtain⟨a,first,row,T⟩:=T;have ho:=T.o;have ha:=T.ao;have Tr:=λg=>(show Iy (h++g) r a room first row L from ⟨ZC ((QG (Qb T.o)).trans T.o),ZC ((QG (Qb T.ao)).trans T.ao),T.fl,T.len,T.xK,T.rows⟩);by_cases hf:L.length=room
 .have d0:(((room - L.length:Nat):Int)==0)=true:=ξ;refine QQ func229 ntmps229 results229 λbase w pl hb=>?_;have Ql:=Qb ho;have YH:=Qb ha;simp only[go_sem];apply ZQ hb QdC (Qe9 (Tr _));apply Qg hb;simp only[go_sem,d0];rw[Qd hf,Qd hf];exact⟨rfl,T0.frame λl h1 h2=>QG h2,Step.app S h _⟩
 .have hlen:=T.len;have d0:(((room - L.length:Nat):Int)==0)=false:=ξ;refine QQ func229 ntmps229 results229 λbase w pl hb=>?_;have Ql:=Qb ho;have YH:=Qb ha;simp only[go_sem];apply ZQ hb QdC (Qe9 (Tr _));apply Qg hb;simp only[go_sem,d0];apply QF hb [0,1,2,3,4,5,6,7,8,10,1009,11,1012];simp only[go_sem,Qe,ho,Ql];apply Wz hb mX (Qe8 (Tr _) L.length (by have:=T.xK;omega));apply ZH hb;simp only[go_sem,Qe,Ql,ha,YH];have hm:(first+L.length) % room<room:=X6 _ (by have:=T.fl;omega);have ZR:(row ((first+L.length) % room)).drop 6=[]:=Pb (by rw[T.lens _ hm];exact QB _);refine⟨hm,hm,?_⟩;simp only[go_sem,Qe,ho,Ql,ZR,Qr (Q3 T.ra)];rw[Qc hf,Qc hf];have Iz:=Qb ho;have IA:=Qb ha;have jW:=T.fl;have qm:=T.xK;have e1:IntKind.i64.wrap ((L.length:Int)+1)=((L.length+1:Nat):Int):=Zu;refine⟨rfl,⟨a,first,λk=>bif k==(first+L.length) % room then x.cells else row k,?_,?_,T.ra,T.fl,ξ,qm,?_,?_,T.sr,T.sa⟩,?_,?_⟩
  .rw[QG (by simp;exact Iz),Wt (by simp;exact Iz),e1];simp[Si,Qa]
  .rw[QG (by simp;exact IA),Jw T.ra,Wt IA];rfl
  .intro i hi;simp only[ZW,kE]at hi;by_cases h1:i=L.length
   .subst h1;simp
   .have Z9:i<L.length:=ω;have QA:((first+i) % room==(first+L.length) % room)=false:=by
     rw[o5 jW ω,o5 jW ω];simp only[zL];split<;>split<;>omega
    rw[QA];simp only[YW,T.rows i Z9,List.getD,JC Z9]
  .intro i hi;show (bif _ then _ else _:List D).length=6;by_cases h1:(i==(first+L.length) % room)=true
   .rw[h1];rfl
   .rw[Xe.2 h1];exact T.lens i hi
  .intro l hl hn;have n1:a≠l:=λe=>hn (e▸T.sa);have n2:r≠l:=λe=>hn (e▸T.sr);rw[QG (by simp;exact hl),Jw n2,Jw n1]
  .simp
def Qtm{S}{h}{r room}{x}{L}(T:j5 S h r room (x::L)):
  QH prog 287 h [.ptr r 0 0 0] (λd h'=>d=.tup [.agg x.cells,Qa 0]/\j5 S h' r room L/\Step S h h'):=by
 have T0:=T;obtain⟨a,first,row,T⟩:=T;have ho:=T.o;have ha:=T.ao;have Tr:=λg=>(show Iy (h++g) r a room first row (x::L) from ⟨ZC ((QG (Qb T.o)).trans T.o),ZC ((QG (Qb T.ao)).trans T.ao),T.fl,T.len,T.xK,T.rows⟩);have qm:=T.xK;have jW:=T.fl;have DL:=T.len;simp only[Kv]at DL;refine QQ func287 ntmps287 results287 λbase w pl hb=>?_;have Ql:=Qb ho;have YH:=Qb ha;simp only[go_sem];apply ZQ hb QdP (Qfa (Tr _) 0 σ);apply Qg hb;simp only[go_sem,Qe,Qe];apply QF hb Eq;simp only[go_sem,Qe,ho,Ql,ha,YH];refine⟨jW,jW,?_⟩;have Iz:=Qb ho;have IA:=Qb ha;have ZR:(row first).drop 6=[]:=Pb (by rw[T.lens _ jW];exact QB _);have Av:∀A B,((h.set a A).set r B)[r]? = some B:=λA B=>Wt (by simp;exact Iz);have e2:IntKind.i64.wrap (((L.length+1:Nat):Int) - 1)=(L.length:Int):=Zu;have Eu:=λA g=>(show ((h.set a A++g).map Ob.ro)[r]? = some (Si a room first (L.length+1)).ro from ZC ((QG (by simp;exact Iz)).trans ((Jw (Q3 T.ra)).trans ho)));have haN:=λJU g=>(show ((h.set a ⟨.arr,0,6,room,JU⟩++g).map Ob.ro)[a]? = some (⟨.arr,0,6,room,JU⟩:Ob).ro from ZC ((QG (by simp;exact IA)).trans (Wt IA)));apply ZQ hb mX (Qe7 (Eu _ _) (haN _ _) jW qm 1 ω);apply Qg hb;simp only[go_sem,Qe,Qe,ho,Ql,Qr (Q3 T.ra),ZR,Av,e2];refine⟨⟨a,(first+1) % room,λk=>bif k==first then (default:Pk).cells else row k,?_,?_,T.ra,X6 _ ω,ω,qm,?_,?_,T.sr,T.sa⟩,?_,?_⟩
 .rw[QG (by simp;exact Iz),Wt (by simp;exact Iz)];rfl
 .rw[QG (by simp;exact IA),Jw T.ra,Wt IA];rfl
 .intro i hi;have e3:((first+1) % room+i) % room=(first+(i+1)) % room:=by rw[Nat.mod_add_mod];congr 1;omega
  have h1:i+1<room:=ω;have QA:((first+(i+1)) % room==first)=false:=by
   rw[o5 jW ω];simp only[zL];split<;>omega
  rw[e3];simp only[QA,YW,T.rows (i+1) ξ];simp
 .intro i hi;show (bif _ then _ else _:List D).length=6;by_cases h1:(i==first)=true
  .rw[h1];rfl
  .rw[Xe.2 h1];exact T.lens i hi
 .intro l hl hn;have n1:a≠l:=λe=>hn (e▸T.sa);have n2:r≠l:=λe=>hn (e▸T.sr);rw[QG (by simp;exact hl),Jw n2,Jw n1]
 .simp
def Qto(h:List Ob)(n:Nat)(h1:1<=n)(h2:n<=64):QH prog 228 h [Qa n] (λd h'=>d=.tup [.ptr (h.length+1) 0 0 0,Qa 0]/\j5 (λl=>h.length<=l) h' (h.length+1) n []/\∃g,h'=h++g/\g.length=2):=by
 have d1:decide ((n:Int)<1)=false:=QI ω;have d2:decide ((64:Int)<n)=false:=QI ω;refine QQ func228 ntmps228 results228 λbase w pl hb=>?_;simp only[go_sem,d1,d2];refine Qti yG hb rfl rfl rfl rfl π ω π rfl ?_;apply Qn hb;simp only[ZW,kE,V9,YT,zK];refine⟨trivial,⟨h.length,0,λ_=>(default:Pk).cells,VD rfl,KV rfl,ω,ω,σ,h2,σ,λ_ _=>rfl,by show h.length<=_;omega,QB _⟩,_,rfl,rfl⟩
@[go_sem] def num(n:Nat):D:=.agg [u64 (n / 18446744073709551616),u64 (n % 18446744073709551616)]
def Qtp(a b ah al bh bl)(ha:a=ah*4294967296+al)(hb:b=bh*4294967296+bl)(h1:ah<4294967296)(h2:al<4294967296)(h3:bh<4294967296)(h4:bl<4294967296):
  ∃P Q R S:Nat,P=ah*bh/\Q=ah*bl/\R=al*bh/\S=al*bl/\a*b=P*18446744073709551616+(Q+R)*4294967296+S/\P<=18446744065119617025/\Q<=18446744065119617025/\R<=18446744065119617025/\S<=18446744065119617025:=by
 refine⟨_,_,_,_,rfl,rfl,rfl,rfl,?_,?_,?_,?_,?_⟩
 .subst ha hb;have e:(ah*4294967296+al)*(bh*4294967296+bl)=ah*bh*(4294967296*4294967296)+(ah*bl+al*bh)*4294967296+al*bl:=by
   simp only[Vz,Qe0,Mc,Qkl,Pw];omega
  rw[e]
 all_goals (refine Ki (qC (Nat.le_sub_one_of_lt ‹_›) (Nat.le_sub_one_of_lt ‹_›)) π)
def Bm(a b)(ha:a<18446744073709551616)(hb:b<18446744073709551616):QW prog 91 [u64 a,u64 b] (QN (num (a*b))):=by
 refine xT 0 func91 ntmps91 results91 λbase w hb=>?_;simp only[go_sem,-Nat.reducePow];have e32:(2:Nat) ^ min 32 64=4294967296:=rfl;have i32:(2:Int) ^ min 32 64=((4294967296:Nat):Int):=rfl;obtain⟨P,Q,R,S,hP,hQ,hR,hS,Vu,bP,bQ,bR,bS⟩:=Qtp a b (a / 4294967296) (a % 4294967296) (b / 4294967296) (b % 4294967296) ω ω ω ω ω ω;have s32:∀x:Nat,((x:Int)).fdiv ((4294967296:Nat):Int)=((x / 4294967296:Nat):Int):=λx=>by have:=Il x 32;rwa [show (2:Int) ^ 32=((4294967296:Nat):Int) from rfl,show (2:Nat) ^ 32=4294967296 from rfl]at this
 simp (disch:=omega) only [s32,Qsg,i32,RL,Ee,<- hP,<- hQ,<- hR,<- hS,Vu];have k2:∀X:Nat,X*4294967296 % 18446744073709551616=X % 4294967296*4294967296:=λX=>ω;rw[k2,Qsh _ _ ω ω];have e1:((P % 18446744073709551616+((Q % 18446744073709551616+S % 18446744073709551616 / 4294967296) % 18446744073709551616) / 4294967296) % 18446744073709551616+((R % 18446744073709551616+((Q % 18446744073709551616+S % 18446744073709551616 / 4294967296) % 18446744073709551616) % 4294967296) % 18446744073709551616) / 4294967296) % 18446744073709551616=(P*18446744073709551616+(Q+R)*4294967296+S) / 18446744073709551616:=ω;have e2:((R % 18446744073709551616+((Q % 18446744073709551616+S % 18446744073709551616 / 4294967296) % 18446744073709551616) % 4294967296) % 18446744073709551616) % 4294967296*4294967296+S % 18446744073709551616 % 4294967296=(P*18446744073709551616+(Q+R)*4294967296+S) % 18446744073709551616:=ω;rw[e1,e2]
def o6(a b)(ha:a<2 ^ 128)(hb:b<2 ^ 128):QW prog 93 [num a,num b] (QN (Qa (if a<b then -1 else if a=b then 0 else 1))):=by
 refine xT 0 func93 ntmps93 results93 λbase w hb=>?_;simp only[go_sem,-Nat.reducePow];refine YA (λh1=>?_) (λh1=>?_)
 .simp only[go_sem,-Nat.reducePow,h1];have:=X8 h1;rw[Qd ω]
 simp only[go_sem,-Nat.reducePow,h1];have Ji:=BR h1;refine YA (λh2=>?_) (λh2=>?_)
 .have Yu:a / 18446744073709551616=b / 18446744073709551616:=by have:=eq_of_beq h2;omega
  simp only[go_sem,-Nat.reducePow,h2];refine YA (λh3=>?_) (λh3=>?_)
  .have:=X8 h3;simp only[go_sem,-Nat.reducePow,h3];rw[Qd ω]
  .have nO:=BR h3;simp only[go_sem,-Nat.reducePow,h3];refine YA (λh4=>?_) (λh4=>?_)
   .simp only[go_sem,-Nat.reducePow,h4];simp only[Zy,jr]at h4;rw[Qc ω,Qd ω]
   .simp only[go_sem,-Nat.reducePow,h4];simp only[Hb,zL]at h4;rw[Qc ω,Qc ω]
 .have Yu:=ne_of_beq_false h2;simp only[go_sem,-Nat.reducePow,h2,O6];rw[Qc ω,Qc ω]
def Qtr(a b c u:Nat)(ha:a<18446744073709551616)(hb:b<18446744073709551616)(hc:c<2)(hl:u=(a+18446744073709551616 - b+18446744073709551616 - c) % 18446744073709551616):
  (bits BinOp.or IntKind.u64 (bits BinOp.and IntKind.u64 (bits BinOp.xor IntKind.u64 (if IntKind.u64.signed=true then -1 else IntKind.u64.max) (a:Int)) (b:Int)) (bits BinOp.and IntKind.u64 (bits BinOp.xor IntKind.u64 (if IntKind.u64.signed=true then -1 else IntKind.u64.max) (bits BinOp.xor IntKind.u64 (a:Int) (b:Int))) (u:Int))).fdiv (2 ^ min 63 64)=((if a<b+c then 1 else 0:Nat):Int):=by
 have em:(if IntKind.u64.signed=true then -1 else IntKind.u64.max)=((18446744073709551615:Nat):Int):=π;have hx:a ^^^ b<2 ^ 64:=Px ω ω;have Xz:18446744073709551615 ^^^ a<2 ^ 64:=Px ω ω;have Wf:18446744073709551615 ^^^ (a ^^^ b)<2 ^ 64:=Px ω ω;have IB:(18446744073709551615 ^^^ a) &&& b<2 ^ 64:=Ut _ ω;have hx4:(18446744073709551615 ^^^ (a ^^^ b)) &&& u<2 ^ 64:=Ut _ ω;rw[em,u64_xor_nat a b ha hb,u64_xor_nat _ a π ha,u64_xor_nat _ _ π ω,u64_and_nat _ b ω hb,u64_and_nat _ u ω ω,u64_or_nat _ _ ω ω,Il];rw[show (2:Nat) ^ min 63 64=9223372036854775808 from rfl,nZ _ _ ω ω,dD _ _ ω ω,dD _ _ ω ω,Qhq _ _ ω ω,Qhq _ _ ω ω,Qhq _ _ ω ω];rw[Qsi a b c _ _ _ u _ ha hb hc hl rfl rfl rfl rfl]
def Qfb(a b)(c)(ha:a<18446744073709551616)(hb:b<18446744073709551616)(hc:c<2):QW prog 167 [u64 a,u64 b,u64 c] (QN (.tup [u64 ((a+18446744073709551616 - b+18446744073709551616 - c) % 18446744073709551616),u64 (if a<b+c then 1 else 0)])):=by
 refine xT 0 func167 ntmps167 results167 λbase w hb=>?_;simp only[go_sem,-Nat.reducePow];have h2:IntKind.u64.wrap (IntKind.u64.wrap ((a:Int) - (b:Int)) - (c:Int))=(((a+18446744073709551616 - b+18446744073709551616 - c) % 18446744073709551616:Nat):Int):=by
  rw[nX a b ω,nX _ c ω];omega
 rw[h2,Qtr a b c _ ha ‹_› hc rfl]
def Qtt(a b)(ha:a<2 ^ 128)(hb:b<2 ^ 128):QW prog 111 [num a,num b] (QN (.tup [num ((a+2 ^ 128 - b) % 2 ^ 128),QT (decide (a<b))])):=by
 refine xT 0 func111 ntmps111 results111 λbase w hb=>?_;simp only[go_sem,-Nat.reducePow];refine cT hb Qdp ?_ (Qfb (a % 18446744073709551616) (b % 18446744073709551616) 0 ω ω ω) ?_
 .simp only[go_sem,-Nat.reducePow]
 apply Qg hb;simp only[go_sem,-Nat.reducePow];refine cT hb Qdp ?_ (Qfb (a / 18446744073709551616) (b / 18446744073709551616) (if a % 18446744073709551616<b % 18446744073709551616+0 then 1 else 0) ω ω (by split<;>omega)) ?_
 .simp only[go_sem,-Nat.reducePow]
 apply Qg hb;simp only[go_sem,-Nat.reducePow];have e1:∀x:Nat,(((if x=1 then (1:Nat) else 0:Nat):Int) != 0)=decide (x=1):=λx=>by by_cases h:x=1<;>simp[h]
 have e2:(((if a / 18446744073709551616<b / 18446744073709551616+if a % 18446744073709551616<b % 18446744073709551616 then 1 else 0 then 1 else 0:Nat):Int) != 0)=decide (a<b):=by
  by_cases h1:a % 18446744073709551616<b % 18446744073709551616
  .rw[Qd h1];by_cases h2:a / 18446744073709551616<b / 18446744073709551616+1
   .rw[Qd h2];simp;omega
   .rw[Qc h2];simp;omega
  .rw[Qc h1];by_cases h2:a / 18446744073709551616<b / 18446744073709551616+0
   .rw[Qd h2];simp;omega
   .rw[Qc h2];simp;omega
 have e3:(a / 18446744073709551616+18446744073709551616 - b / 18446744073709551616+18446744073709551616 - if a % 18446744073709551616<b % 18446744073709551616 then 1 else 0) % 18446744073709551616=(a+2 ^ 128 - b) % 2 ^ 128 / 18446744073709551616:=by
  split<;>omega
 have e4:(a % 18446744073709551616+18446744073709551616 - b % 18446744073709551616+18446744073709551616 - 0) % 18446744073709551616=(a+2 ^ 128 - b) % 2 ^ 128 % 18446744073709551616:=ω;try rw[Dl]at e4
 try rw[Dl]at e4
 rw[e2,e3,e4]
def Qtu(a b c u:Nat)(ha:a<18446744073709551616)(hb:b<18446744073709551616)(hc:c<2)(hl:u=(a+b+c) % 18446744073709551616):
  (bits BinOp.or IntKind.u64 (bits BinOp.and IntKind.u64 (a:Int) (b:Int)) (bits BinOp.andNot IntKind.u64 (bits BinOp.or IntKind.u64 (a:Int) (b:Int)) (u:Int))).fdiv (2 ^ min 63 64)=((if 18446744073709551616<=a+b+c then 1 else 0:Nat):Int):=by
 have hx:a ||| b<2 ^ 64:=Nat.or_lt_two_pow ω ω;have IB:a &&& b<2 ^ 64:=Ut _ ω;have hx4:(a ||| b) &&& (18446744073709551615 - u)<2 ^ 64:=Ut _ ω;rw[u64_and_nat a b ha hb,u64_or_nat a b ha hb,u64_andNot_nat _ u ω ω,u64_or_nat _ _ ω ω,Il];rw[show (2:Nat) ^ min 63 64=9223372036854775808 from rfl,nZ _ _ ω ω,dD _ _ ω ω,dD _ _ ω ω,nZ _ _ ω ω];rw[show (18446744073709551615 - u) / 9223372036854775808=1 - u / 9223372036854775808 by omega];rw[Qsj a b c _ _ _ u _ ha hb hc hl rfl rfl rfl rfl]
def Qfc(a b)(c)(ha:a<18446744073709551616)(hb:b<18446744073709551616)(hc:c<2):QW prog 168 [u64 a,u64 b,u64 c] (QN (.tup [u64 ((a+b+c) % 18446744073709551616),u64 (if 18446744073709551616<=a+b+c then 1 else 0)])):=by
 refine xT 0 func168 ntmps168 results168 λbase w hb=>?_;simp only[go_sem,-Nat.reducePow];have h2:IntKind.u64.wrap (IntKind.u64.wrap ((a:Int)+(b:Int))+(c:Int))=(((a+b+c) % 18446744073709551616:Nat):Int):=by
  rw[Ee,Ee];omega
 rw[h2,Qtu a b c _ ha ‹_› hc rfl]
def Sk(a b)(ha:a<2 ^ 128)(hb:b<2 ^ 128):QW prog 112 [num a,num b] (QN (.tup [num ((a+b) % 2 ^ 128),QT (decide (2 ^ 128<=a+b))])):=by
 refine xT 0 func112 ntmps112 results112 λbase w hb=>?_;simp only[go_sem,-Nat.reducePow];refine cT hb Qdq ?_ (Qfc (a % 18446744073709551616) (b % 18446744073709551616) 0 ω ω ω) ?_
 .simp only[go_sem,-Nat.reducePow]
 apply Qg hb;simp only[go_sem,-Nat.reducePow];refine cT hb Qdq ?_ (Qfc (a / 18446744073709551616) (b / 18446744073709551616) (if 18446744073709551616<=a % 18446744073709551616+b % 18446744073709551616+0 then 1 else 0) ω ω (by split<;>omega)) ?_
 .simp only[go_sem,-Nat.reducePow]
 apply Qg hb;simp only[go_sem,-Nat.reducePow];have e2:(((if 18446744073709551616<=a / 18446744073709551616+b / 18446744073709551616+(if 18446744073709551616<=a % 18446744073709551616+b % 18446744073709551616 then 1 else 0) then 1 else 0:Nat):Int) != 0)=decide (2 ^ 128<=a+b):=by
  by_cases h1:18446744073709551616<=a % 18446744073709551616+b % 18446744073709551616
  .rw[Qd h1];by_cases h2:18446744073709551616<=a / 18446744073709551616+b / 18446744073709551616+1
   .rw[Qd h2];simp;omega
   .rw[Qc h2];simp;omega
  .rw[Qc h1];by_cases h2:18446744073709551616<=a / 18446744073709551616+b / 18446744073709551616+0
   .rw[Qd h2];simp;omega
   .rw[Qc h2];simp;omega
 have e3:(a / 18446744073709551616+b / 18446744073709551616+if 18446744073709551616<=a % 18446744073709551616+b % 18446744073709551616 then 1 else 0) % 18446744073709551616=(a+b) % 2 ^ 128 / 18446744073709551616:=by
  split<;>omega
 have e4:(a % 18446744073709551616+b % 18446744073709551616) % 18446744073709551616=(a+b) % 2 ^ 128 % 18446744073709551616:=ω;try rw[Dl]at e4
 try rw[Dl]at e4
 rw[e2,e3,e4]
def Qnp(a)(ha:a<18446744073709551616):QW prog 78 [u64 a] (QN (num a)):=by
 refine xT 0 func78 ntmps78 results78 λbase w hb=>?_;simp only[go_sem,-Nat.reducePow];have e1:a / 18446744073709551616=0:=ω;have e2:a % 18446744073709551616=a:=ω;rw[e1,e2];rfl
def o7(x y:Nat)(hx:x<9223372036854775808)(hy:y<2):bits .or .u64 ((x*2:Nat):Int) (y:Int)=((x*2+y:Nat):Int):=by
 rw[u64_or_nat _ _ ω ω,nat_join 1 _ _ ω ω]
def o8(x:Nat):(x:Int).fdiv (2 ^ min 63 64)=((x / 9223372036854775808:Nat):Int):=by
 have:=Il x 63;rwa [show (2:Int) ^ 63=2 ^ min 63 64 from rfl,show (2:Nat) ^ 63=9223372036854775808 from rfl]at this
def QhB(x:Nat):IntKind.u64.wrap ((x:Int)*2 ^ min 1 64)=((x % 9223372036854775808*2:Nat):Int):=by
 rw[show (2:Int) ^ min 1 64=((2:Nat):Int) from rfl,RL];omega
def pc(r A:Nat)(hA:A<2 ^ 128):bits .or .u64 (IntKind.u64.wrap ((r:Int)*2 ^ min 1 64)) ((A / 18446744073709551616 / 9223372036854775808:Nat):Int)=(((2*r+A / 2 ^ 127) % 18446744073709551616:Nat):Int):=by
 rw[QhB,o7 _ _ ω ω];congr 1;omega
def NO(A)(hA:A<2 ^ 128):bits .or .u64 (IntKind.u64.wrap (((A / 18446744073709551616:Nat):Int)*2 ^ min 1 64)) ((A % 18446744073709551616 / 9223372036854775808:Nat):Int)=(((A*2 % 2 ^ 128) / 18446744073709551616:Nat):Int):=by
 rw[QhB,o7 _ _ ω ω];congr 1;omega
def pe(A):IntKind.u64.wrap (((A % 18446744073709551616:Nat):Int)*2 ^ min 1 64)=(((A*2 % 2 ^ 128) % 18446744073709551616:Nat):Int):=by
 rw[QhB];congr 1;omega
def Qfd(x):bits .or .u64 (((x*2 % 2 ^ 128) % 18446744073709551616:Nat):Int) 1=((((x*2+1) % 2 ^ 128) % 18446744073709551616:Nat):Int):=by
 have:=o7 ((x*2 % 2 ^ 128) % 18446744073709551616 / 2) 1 ω ω;rw[show (x*2 % 2 ^ 128) % 18446744073709551616 / 2*2=(x*2 % 2 ^ 128) % 18446744073709551616 by omega]at this;rw[show ((1:Nat):Int)=1 from rfl]at this;rw[this];congr 1;omega
def pf{n:Nat}(h:n≠0):((n:Int) != 0)=true:=by simp[h]
def dZ{n:Nat}(h:n=0):((n:Int) != 0)=false:=by simp[h]
def Qtv(a k)(hk:k<128):a / 2 ^ (128 - (k+1))=2*(a / 2 ^ (128 - k))+(a*2 ^ k % 2 ^ 128) / 2 ^ 127:=by
 obtain⟨m,hm⟩:∃m,m=127 - k:=⟨_,rfl⟩;have e1:128 - (k+1)=m:=ω;have e2:128 - k=m+1:=ω;have e3:(2:Nat) ^ 128=2 ^ (m+1)*2 ^ k:=by rw[<- Nat.pow_add];congr 1;omega
 have e4:(2:Nat) ^ 127=2 ^ m*2 ^ k:=by rw[<- Nat.pow_add];congr 1;omega
 rw[e1,e2,e3,e4,Nat.mul_mod_mul_right,Nat.mul_div_mul_right _ _ (Uw k),Nat.pow_succ];have hM:=Uw m;generalize 2 ^ m=M at *;have h1:=Pr a (M*2);have h2:a=M*(2*(a / (M*2)))+a % (M*2):=by rw[<- Pw];omega
 conv=>lhs;rw[h2]
 rw[Nat.mul_add_div hM]
def Qtw(a k):a*2 ^ k % 2 ^ 128*2 % 2 ^ 128=a*2 ^ (k+1) % 2 ^ 128:=by
 have:a*2 ^ (k+1)=a*2 ^ k*2:=by rw[Nat.pow_succ,Pw]
 rw[this];omega
def Qtx(t b β)(hb:0<b)(hβ:β<2):
  (b<=2*(t % b)+β->(2*t+β) / b=2*(t / b)+1/\(2*t+β) % b=2*(t % b)+β - b)/\(2*(t % b)+β<b->(2*t+β) / b=2*(t / b)/\(2*t+β) % b=2*(t % b)+β):=by
 have h1:=Pr t b;have h2:=X6 t hb;constructor
 .intro h;refine(Uu hb).2 ⟨?_,ω⟩;rw[Qe0,Qkl];omega
 .intro h;refine(Uu hb).2 ⟨?_,ω⟩;rw[Qkl];omega
def dA(a k:Nat):Nat:=a*2 ^ k % 2 ^ 128
def dT(a k:Nat):Nat:=a / 2 ^ (128 - k)
def Qfe(a k)(h:a<2 ^ 128):dT a k<2 ^ 128:=Pv (Ps _ _) h
def Gx(a k):dA a k<2 ^ 128:=X6 _ π
def pg(a b)(ha:a<2 ^ 128)(hb:b<18446744073709551616):QW prog 131 [num a,u64 b] (QN (.tup [num (if b=0 then 0 else a / b),u64 (if b=0 then 0 else a % b),Qa (if b=0 then 1 else 0)])):=by
 refine xT 0 func131 ntmps131 results131 λbase w hb=>?_;simp only[go_sem,-Nat.reducePow];by_cases Zp:b=0
 .subst Zp;simp only[go_sem,-Nat.reducePow,Vs];try rfl
 have hbz:=cP Zp;simp only[go_sem,-Nat.reducePow,hbz];have i1:dA a 0=a:=by show a*2 ^ 0 % 2 ^ 128=a;rw[Nat.pow_zero,Qkn];exact jq ha
 have i2:dT a 0=0:=Nat.div_eq_of_lt ha;refine MW (G:=Nat) [1,2,4,7] (λk=>True) (λk γ=>[(8,u64 (dT a k % b)),(13,Qa k)]) (λk γ=>[⟨.one,0,2,1,λ_=>[u64 (dA a k / 18446744073709551616),u64 (dA a k % 18446744073709551616)]⟩,⟨.one,0,2,1,λ_=>[u64 0,u64 0]⟩,⟨.one,0,2,1,λ_=>[u64 (dT a k / b / 18446744073709551616),u64 (dT a k / b % 18446744073709551616)]⟩]) (128) (0) rfl (Qz.to 3 (by (simp only[go_sem,-Nat.reducePow,i1,i2,Nat.zero_div,Nat.zero_mod])<;>simp)) trivial ?_;intro k γ hk _;replace hk:k<=128:=hk;apply Qg hb;simp only[go_sem,-Nat.reducePow];have Zb:=J9 (show k<4611686018427387904 from ω);first|refine jO hk (λQj=>?_) (λQj=>?_)|refine jP hk (λQj=>?_) (λQj=>?_)
 .replace Qj:k<128:=Qj;have Qb:decide ((k:Int)<128)=true:=ξ;have J5:0<b:=ω;have t1:dT a (k+1)=2*dT a k+dA a k / 2 ^ 127:=Qtv a k Qj;have t2:dA a k*2 % 2 ^ 128=dA a (k+1):=Qtw a k;have t3:=Qtx (dT a k) b (dA a k / 2 ^ 127) J5 (by have:=Gx a k;omega);have t4:=X6 (dT a k) J5;have t5:=Gx a k;have t6:=Qfe a (k+1) ha;rw[<- t1]at t3;have t7:dT a (k+1) / b<2 ^ 128:=Pv (Ps _ _) t6;have t8:dT a k / b<2 ^ 128:=Pv (Ps _ _) (Qfe a k ha);by_cases Yb:b<=2*(dT a k % b)+dA a k / 2 ^ 127
  .obtain⟨q1,q2⟩:=t3.1 Yb;have e1:IntKind.u64.wrap ((((2*(dT a k % b)+dA a k / 2 ^ 127) % 18446744073709551616:Nat):Int) - (b:Int))=((dT a (k+1) % b:Nat):Int):=by
    rw[nX _ b ω,q2];congr 1;omega
   have e2:dT a k / b*2 % 2 ^ 128=dT a k / b*2:=ω;have e3:((dT a k / b*2+1) % 2 ^ 128)=dT a (k+1) / b:=ω;have e4:dT a k / b*2 % 2 ^ 128 / 18446744073709551616=dT a (k+1) / b / 18446744073709551616:=ω;by_cases ho:dT a k % b / 9223372036854775808=0
   .have ph:decide (b<=(2*(dT a k % b)+dA a k / 2 ^ 127) % 18446744073709551616)=true:=ξ;have Sm:((((dT a k % b / 9223372036854775808:Nat)):Int) != 0)=false:=dZ ho;simp only[go_sem,-Nat.reducePow,Qb,pc _ _ (Gx a k),NO _ (Gx a k),NO _ t8,pe,o8,Sm,ph,e1,t2,Qfd,e3,e4];repeat (refine And.intro δ ?_)
    refine⟨_,Qz.to 3 (by (simp only[go_sem,-Nat.reducePow,Zb])<;>simp),XT.mk (γ) (trivial)⟩
   .have Sm:((((dT a k % b / 9223372036854775808:Nat)):Int) != 0)=true:=pf ho;simp only[go_sem,-Nat.reducePow,Qb,pc _ _ (Gx a k),NO _ (Gx a k),NO _ t8,pe,o8,Sm,e1,t2,Qfd,e3,e4];repeat (refine And.intro δ ?_)
    refine⟨_,Qz.to 3 (by (simp only[go_sem,-Nat.reducePow,Zb])<;>simp),XT.mk (γ) (trivial)⟩
  .obtain⟨q1,q2⟩:=t3.2 ω;have e1:(2*(dT a k % b)+dA a k / 2 ^ 127) % 18446744073709551616=dT a (k+1) % b:=ω;have e3:dT a k / b*2 % 2 ^ 128=dT a (k+1) / b:=ω;have ho:dT a k % b / 9223372036854775808=0:=ω;have ph:decide (b<=dT a (k+1) % b)=false:=ξ;have Sm:=dZ ho;simp only[go_sem,-Nat.reducePow,Qb,pc _ _ (Gx a k),NO _ (Gx a k),NO _ t8,pe,o8,Sm,e1,ph,t2,e3];repeat (refine And.intro δ ?_)
   refine⟨_,Qz.to 3 (by (simp only[go_sem,-Nat.reducePow,Zb])<;>simp),XT.mk (γ) (trivial)⟩
 .have Qb:decide ((k:Int)<128)=false:=by rw[Qj];rfl
  have e1:dT a k=a:=by rw[Qj];show a / 2 ^ 0=a;rw[Nat.pow_zero,Nat.div_one]
  simp only[go_sem,-Nat.reducePow,Qb,e1];apply Qg hb;simp only[go_sem,-Nat.reducePow];rw[Qc Zp,Qc Zp,Qc Zp]
def d0(n:Nat):Nat:=n % 4294967296
def d1(n:Nat):Nat:=n / 4294967296 % 4294967296
def d2(n:Nat):Nat:=n / 18446744073709551616 % 4294967296
def d3(n:Nat):Nat:=n / 79228162514264337593543950336 % 4294967296
@[go_sem] def dg(n:Nat):D:=.agg [u64 (d0 n),u64 (d1 n),u64 (d2 n),u64 (d3 n)]
theorem IC:((0:Nat):Int)=0:=rfl
theorem pn:((1:Nat):Int)=1:=rfl
theorem ci2:((2:Nat):Int)=2:=rfl
def cdiv(n d:Nat):Nat:=(n+d - 1) / d
def Qtz(n d)(hd:0<d):cdiv n d=if n % d=0 then n / d else n / d+1:=by
 unfold cdiv;have h1:=Pr n d;have h2:=X6 n hd;split
 .rename_i h;have:(n+d - 1) / d=n / d/\(n+d - 1) % d=d - 1:=(Uu hd).2 ⟨ω,ω⟩;exact this.1
 .have:(n+d - 1) / d=n / d+1/\(n+d - 1) % d=n % d - 1:=(Uu hd).2 ⟨by rw[Qe0];omega,ω⟩;exact this.1
def QwJ(n)(hn:n<18446744073709551616):QW prog 132 [num n] (QN (.tup [u64 n,Qa 0])):=by
 refine xT 0 func132 ntmps132 results132 λbase w hb=>?_;simp only[go_sem];have e1:((((n / 18446744073709551616:Nat)):Int) != 0)=false:=dZ ω;simp only[go_sem,e1];rw[jq hn]
def QKs(n d)(hn:n<2 ^ 127)(hd:d<18446744073709551616)(Gu:0<d)(hq:cdiv n d<18446744073709551616):QW prog 113 [num n,u64 d] (QN (.tup [u64 (cdiv n d),Qa 0])):=by
 have hc:=Qtz n d Gu;have pq:d≠0:=ω;have hle:=Ps n d;refine xT 0 func113 ntmps113 results113 λbase w hb=>?_;simp only[go_sem];apply ZK hb mM (pg n d ω hd);apply Qg hb;simp only[go_sem,pq,vN];by_cases h:n % d=0
 .rw[Qd h]at hc;have e1:=dZ h;simp only[go_sem,e1];apply ZK hb mN (QwJ (n / d) ω);apply Qg hb;simp only[go_sem,hc]
 .rw[Qc h]at hc;have e1:=pf h;simp only[go_sem,e1];apply QF hb [0,1001,1002,3,4,5,1006];simp only[go_sem];refine Qad hb Qdc ?_ (Qnp 1 π) ?_
  .simp only[go_sem,pn]
  apply ZH hb;simp only[go_sem,pn];refine Qad hb Rz ?_ (Sk (n / d) 1 ω π) ?_
  .simp only[go_sem,pn]
  apply ZA hb;have e2:(n / d+1) % 2 ^ 128=cdiv n d:=ω;simp only[go_sem,e2];apply ZK hb mN (QwJ (cdiv n d) hq);exact qQ hb
def QKt(a b c)(ha:a<18446744073709551616)(hb:b<18446744073709551616)(hc:c<18446744073709551616)(h0:0<c)(h1:a*b<2 ^ 127)(hq:cdiv (a*b) c<18446744073709551616):QW prog 115 [u64 a,u64 b,u64 c] (QN (.tup [u64 (cdiv (a*b) c),Qa 0])):=by
 refine xT 0 func115 ntmps115 results115 λbase w hb=>?_;simp only[go_sem];apply ZK hb Ba (Bm a b ha ‹_›);apply Qn hb;apply ZK hb Qde (QKs (a*b) c h1 hc h0 hq);exact qQ hb
@[go_sem] def QEO(v e:Int):D:=.agg [.raw (.int .u64 v),.raw (.int .i64 e)]
def QtA(n d)(hn:n<2 ^ 128)(hd:0<d)(h:¬ n % d=0):n / d+1<2 ^ 128:=by
 have h2:2<=d:=by
  rcases w9 d 2 with h3|h3
  .have:d=1:=ω;subst this;omega
  .exact h3
 have:=Nat.div_le_div_left (c:=2) (b:=d) (a:=n) h2 π;omega
theorem Qff:((65536:Nat):Int)=65536:=rfl
def ID(n:Nat):Nat:=if n<18446744073709551616 then n else 0
def Gy(n:Nat):Int:=if n<18446744073709551616 then 0 else 20
def po(n)(hn:n<2 ^ 128):QW prog 132 [num n] (QN (.tup [u64 (ID n),Qa (Gy n)])):=by
 refine xT 0 func132 ntmps132 results132 λbase w hb=>?_;simp only[go_sem,-Nat.reducePow];by_cases h:n<18446744073709551616
 .have e1:((((n / 18446744073709551616:Nat)):Int) != 0)=false:=dZ ω;have e2:ID n=n:=Qd h;have e3:Gy n=0:=Qd h;simp only[go_sem,-Nat.reducePow,e1,e2,e3];rw[jq h]
 .have e1:((((n / 18446744073709551616:Nat)):Int) != 0)=true:=pf ω;have e2:ID n=0:=Qc h;have e3:Gy n=20:=Qc h;simp only[go_sem,-Nat.reducePow,e1,e2,e3]
def QtC(n d)(hn:n<2 ^ 128)(hd:d<18446744073709551616)(Gu:0<d):QW prog 113 [num n,u64 d] (QN (.tup [u64 (ID (cdiv n d)),Qa (Gy (cdiv n d))])):=by
 have hc:=Qtz n d Gu;have pq:d≠0:=ω;have hle:=Ps n d;refine xT 0 func113 ntmps113 results113 λbase w hb=>?_;simp only[go_sem,-Nat.reducePow];refine cT hb mM ?_ (pg n d hn hd) ?_
 .simp only[go_sem,-Nat.reducePow]
 apply Qg hb;simp only[go_sem,-Nat.reducePow,pq,vN];by_cases h:n % d=0
 .rw[Qd h]at hc;have e1:=dZ h;simp only[go_sem,-Nat.reducePow,e1];refine cT hb mN ?_ (po (n / d) ω) ?_
  .simp only[go_sem,-Nat.reducePow]
  apply Qg hb;simp only[go_sem,-Nat.reducePow,hc]
 .rw[Qc h]at hc;have Xf:=QtA n d hn Gu h;have e1:=pf h;simp only[go_sem,-Nat.reducePow,e1];apply QF hb [0,1001,1002,3,4,5,1006];simp only[go_sem,-Nat.reducePow];refine Qad hb Qdc ?_ (Qnp 1 π) ?_
  .simp only[go_sem,-Nat.reducePow,pn]
  apply ZH hb;simp only[go_sem,-Nat.reducePow,pn];refine Qad hb Rz ?_ (Sk (n / d) 1 ω π) ?_
  .simp only[go_sem,-Nat.reducePow,pn]
  apply ZH hb;simp only[go_sem,-Nat.reducePow];have e2:(n / d+1) % 2 ^ 128=cdiv n d:=ω;simp only[go_sem,-Nat.reducePow,e2];refine cT hb mN ?_ (po (cdiv n d) ω) ?_
  .simp only[go_sem,-Nat.reducePow]
  apply Qg hb;simp only[go_sem,-Nat.reducePow]
def Vp(a d b:Nat):Int:=if 4294967295<a\/4294967295<b\/1048576<d then 0 else if a=0/\b=0/\d=0 then 1 else if d=0/\a=b then 2 else if d=0 then 0 else if b<a then 3 else if a=0/\0<b then 4 else 0
@[go_sem] def Bn(a d b:Nat):D:=.agg [u64 a,u64 d,u64 b]
def Sn(a d b):QW prog 116 [Bn a d b] (QN (Qa (Vp a d b))):=by
 refine xT 0 func116 ntmps116 results116 λbase w hb=>?_;simp only[go_sem,-Nat.reducePow]
 repeat' (first|((first|refine QfZ (λh=>?_) (λh=>?_)|refine Qf0 (λh=>?_) (λh=>?_)|refine QgF (λh=>?_) (λh=>?_)|refine YA (λh=>?_) (λh=>?_)|refine QgM (λh=>?_) (λh=>?_)|refine Qhb (λh=>?_) (λh=>?_)|refine F5 (λh=>?_) (λh=>?_)|refine FW (λh=>?_) (λh=>?_))<;>(try simp only[go_sem,-Nat.reducePow]))|(refine And.intro ω ?_;try simp only[go_sem,-Nat.reducePow]))
 all_goals (congr 2;(try simp only[Zy,Hb,jr,zL,ne_eq]at *);(try unfold Vp);(repeat' split)<;>omega)
def QtD(a d b):Vp a d b=0\/Vp a d b=1\/Vp a d b=2\/Vp a d b=3\/Vp a d b=4:=by unfold Vp;(repeat' split)<;>simp
def pw{a d b}(h:Vp a d b≠0):a<=4294967295/\b<=4294967295/\d<=1048576:=by unfold Vp at h;split at h<;>omega
def pz(a d b):QW prog 114 [Bn a d b] (QN (QT (Vp a d b != 0))):=by
 refine xT 0 func114 ntmps114 results114 λbase w hb=>?_;simp only[go_sem,-Nat.reducePow];refine cT hb DT ?_ (Sn a d b) ?_
 .simp only[go_sem,-Nat.reducePow]
 apply Qg hb;simp only[go_sem,-Nat.reducePow]
def Wj(a d b t:Nat):Nat:=if Vp a d b=0 then 0 else a*min t d+b*(t - min t d)
def Qfg(a d b t)(ht:t<18446744073709551616):Wj a d b t<2 ^ 97:=by
 unfold Wj;split
 .decide
 .rename_i h;obtain⟨h1,h2,h3⟩:=pw h;have e1:a*min t d<=4294967295*1048576:=qC h1 ω;have e2:b*(t - min t d)<=4294967295*18446744073709551615:=qC h2 ω;exact Pv (Nat.add_le_add e1 e2) π
def QtE(a b:Nat):(min (a:Int) (b:Int))=((min a b:Nat):Int):=ω
def Qfh(a d b t)(ht:t<18446744073709551616):QW prog 74 [Bn a d b,u64 t] (QN (num (Wj a d b t))):=by
 refine xT 0 func74 ntmps74 results74 λbase w hb=>?_;simp only[go_sem,-Nat.reducePow];refine cT hb Nk ?_ (pz a d b) ?_
 .simp only[go_sem,-Nat.reducePow]
 apply Qg hb;simp only[go_sem,-Nat.reducePow];by_cases h:Vp a d b=0
 .have e1:Wj a d b t=0:=Qd h;have e2:(Vp a d b != 0)=false:=by simp[h]
  simp only[go_sem,-Nat.reducePow,e1,e2]
 .have e1:Wj a d b t=a*min t d+b*(t - min t d):=Qc h;have e2:(Vp a d b != 0)=true:=by simp[h]
  obtain⟨h1,h2,h3⟩:=pw h;have e3:=dC t (min t d) ω ht;have b1:a*min t d<=4294967295*1048576:=qC h1 ω;have b2:b*(t - min t d)<=4294967295*18446744073709551615:=qC h2 ω;simp only[go_sem,-Nat.reducePow,e1,e2,QtE];apply QF hb [0,1,2,4,5,6,7,8,1003,1009,1010,11,12,13,1014,1015,16];simp only[go_sem,-Nat.reducePow,e3];refine Qad hb Ba ?_ (Bm a (min t d) ω ω) ?_
  .simp only[go_sem,-Nat.reducePow]
  apply ZH hb;simp only[go_sem,-Nat.reducePow];refine Qad hb Ba ?_ (Bm b (t - min t d) ω ω) ?_
  .simp only[go_sem,-Nat.reducePow]
  apply ZH hb;simp only[go_sem,-Nat.reducePow];refine Qad hb Rz ?_ (Sk (a*min t d) (b*(t - min t d)) ω ω) ?_
  .simp only[go_sem,-Nat.reducePow]
  apply ZH hb;simp only[go_sem,-Nat.reducePow];rw[jq ω]
structure Ln where
 x:Nat
 y:Nat
 m:Nat
deriving DecidableEq
instance:Inhabited Ln:=⟨⟨0,0,0⟩⟩
structure Ln.Ok (l:Ln):Prop where
 x:l.x<18446744073709551616
 y:l.y<2 ^ 128
 m:l.m<18446744073709551616
@[go_sem] def Ln.cells(l:Ln):List D:=[u64 l.x,u64 (l.y / 18446744073709551616),u64 (l.y % 18446744073709551616),u64 l.m]
def YI(l:Ln)(x:Nat):Nat:=if x<=l.x then l.y else (l.y+l.m*(x - l.x)) % 2 ^ 128
def Qfi{a b}(ha:a<18446744073709551616)(hb:b<18446744073709551616):a*b<2 ^ 128:=by
 have:a*b<=18446744073709551615*18446744073709551615:=qC ω ω;exact Pv this π
def Qfj{l:Ln}(h:l.Ok)(x):YI l x<2 ^ 128:=by
 unfold YI;split
 .exact h.y
 .exact X6 _ π
def Qfk(l:Ln)(h:l.Ok)(x)(hx:x<18446744073709551616):QW prog 325 [.agg l.cells,u64 x] (QN (num (YI l x))):=by
 unfold YI;refine xT 0 func325 ntmps325 results325 λbase w hb=>?_;simp only[go_sem];by_cases h1:x<=l.x
 .have d1:=QU h1;simp only[go_sem,d1,Qd h1]
 .have d1:=QI h1;have e1:=dC x l.x ω hx;simp only[go_sem,d1,Qc h1];apply QF hb Y8;simp only[go_sem,e1];apply Jb hb Ba (Bm l.m (x - l.x) h.m ω);apply ZA hb;apply Jb hb Rz (Sk l.y (l.m*(x - l.x)) h.y (Qfi h.m ω));exact Iq hb
def vk(l:Ln)(w:Nat):Nat:=
 if w<=l.y then 0
 else if l.m=0\/18446744073709551616<=cdiv (w - l.y) l.m\/never<=l.x\/never - l.x<=cdiv (w - l.y) l.m then never
 else l.x+cdiv (w - l.y) l.m
def Qfl(l)(w):vk l w<=never:=by
 unfold vk;split<;>try split
 .exact Jh _
 .exact QB _
 .omega
def QtF(n)(hn:n<2 ^ 128):QW prog 113 [num n,u64 0] (QN (.tup [u64 0,Qa 1])):=by
 refine xT 0 func113 ntmps113 results113 λbase w hb=>?_;simp only[go_sem];apply ZK hb mM (pg n 0 hn π);apply Qg hb;simp only[go_sem,Vs]
def Qfm{a b:Nat}:((if a<b then (-1:Int) else if a=b then 0 else 1)<=0)↔a<=b:=by
 split
 .omega
 .split<;>omega
def QtG{a b:Nat}:((if a<b then (-1:Int) else if a=b then 0 else 1)<0)↔a<b:=by
 split
 .omega
 .split<;>omega
def QtH{a b}(ha:a<2 ^ 128)(h:b<=a):(a+2 ^ 128 - b) % 2 ^ 128=a - b:=by
 rw[show a+2 ^ 128 - b=a - b+2 ^ 128 by omega,Nat.add_mod_right,jq ω]
def eh(l:Ln)(h:l.Ok)(v)(hv:v<2 ^ 128):QW prog 314 [.agg l.cells,num v] (QN (u64 (vk l v))):=by
 unfold vk;refine xT 0 func314 ntmps314 results314 λbase w hb=>?_;simp only[go_sem];apply ZK hb mL (o6 v l.y hv h.y);apply Qn hb;by_cases h1:v<=l.y
 .have d1:=QU (Qfm.2 h1);simp only[go_sem,d1,Qd h1]
 .have d1:=QI (λh2=>h1 (Qfm.1 h2));rw[Qc h1];simp only[go_sem,d1];apply ZK hb Qp3 (Qtt v l.y hv h.y);apply Qg hb;simp only[go_sem,QtH hv (show l.y<=v from ω)];by_cases h2:l.m=0
  .rw[Qd (.inl h2)];refine cT hb Qde ?_ (QtF (v - l.y) ω) ?_
   .simp only[go_sem,h2]
   apply Qg hb;simp only[go_sem,h2];rfl
  .apply ZK hb Qde (QtC (v - l.y) l.m ω h.m ω);apply Qn hb;by_cases h3:cdiv (v - l.y) l.m<18446744073709551616
   .have e1:Gy (cdiv (v - l.y) l.m)=0:=Qd h3;have e2:ID (cdiv (v - l.y) l.m)=cdiv (v - l.y) l.m:=Qd h3;by_cases h4:never<=l.x
    .have d4:decide ((9223372036854775808:Int)<=(l.x:Int))=true:=QU (by unfold never at h4;omega);rw[Qd (.inr (.inr (.inl h4)))];simp only[go_sem,e1,e2,d4];rfl
    .have d4:decide ((9223372036854775808:Int)<=(l.x:Int))=false:=QI (by unfold never at h4;omega);have e5:IntKind.u64.wrap ((9223372036854775808:Int) - (l.x:Int))=((never - l.x:Nat):Int):=by
      have:=dC 9223372036854775808 l.x (by unfold never at h4;omega) π;exact this
     by_cases h5:never - l.x<=cdiv (v - l.y) l.m
     .have d5:=QU h5;rw[Qd (.inr (.inr (.inr h5)))];simp only[go_sem,e1,e2,d4,e5,d5];rfl
     .have d5:=QI h5;have e6:=nY l.x (cdiv (v - l.y) l.m) (by unfold never at h5;omega);rw[Qc (by rintro (h6|h6|h6|h6);exact h2 h6;omega;exact h4 h6;exact h5 h6)];simp only[go_sem,e1,e2,d4,e5,d5,e6]
   .have e1:Gy (cdiv (v - l.y) l.m)=20:=Qc h3;rw[Qd (.inr (.inl ω))];simp only[go_sem,e1];rfl
def wE(a b:Ln):Ln:=if YI b (max a.x b.x)<YI a (max a.x b.x) then b else a
def Qfn{a b:Ln}(ha:a.Ok)(hb:b.Ok):(wE a b).Ok:=by unfold wE;split<;>assumption
def QtI(a b:Nat):(max (a:Int) (b:Int))=((max a b:Nat):Int):=ω
def Qfo(a b:Ln)(ha:a.Ok)(ZB:b.Ok):QW prog 303 [.agg a.cells,.agg b.cells] (QN (.agg (wE a b).cells)):=by
 have hx:max a.x b.x<18446744073709551616:=by have:=ha.x;have:=ZB.x;omega
 unfold wE;obtain⟨k,hk⟩:∃k,k=(if YI b (max a.x b.x)<YI a (max a.x b.x) then (-1:Int) else if YI b (max a.x b.x)=YI a (max a.x b.x) then 0 else 1):=⟨_,rfl⟩;have hk0:k<0↔YI b (max a.x b.x)<YI a (max a.x b.x):=by rw[hk];exact QtG
 refine xT 0 func303 ntmps303 results303 λbase w hb=>?_;simp only[go_sem];simp only[go_sem,QtI];apply QF hb [0,1,3,4,1002,1005,1006,7];simp only[go_sem];apply Jb hb QdR (Qfk b ZB (max a.x b.x) hx);apply ZA hb;apply Jb hb QdR (Qfk a ha (max a.x b.x) hx);apply ZA hb;apply Jb hb mL (hk▸o6 (YI b (max a.x b.x)) (YI a (max a.x b.x)) (Qfj ZB _) (Qfj ha _));apply ZA hb;by_cases h1:YI b (max a.x b.x)<YI a (max a.x b.x)
 .have d1:=QU (hk0.2 h1);simp only[go_sem,d1,Qd h1]
 .have d1:=QI (λh2=>h1 (hk0.1 h2));rw[Qc h1];simp only[go_sem,d1]
structure Rn where
 f:Ln
 t:Ln
 b:Bool
deriving DecidableEq
instance:Inhabited Rn:=⟨⟨default,default,false⟩⟩
structure Rn.Ok (r:Rn):Prop where
 f:r.f.Ok
 t:r.t.Ok
@[go_sem] def Rn.cells(r:Rn):List D:=[u64 r.f.x,u64 (r.f.y / 18446744073709551616),u64 (r.f.y % 18446744073709551616),u64 r.f.m,u64 r.t.x,u64 (r.t.y / 18446744073709551616),u64 (r.t.y % 18446744073709551616),u64 r.t.m,QT r.b]
def QtJ(n:Nat)(h:n<18446744073709551616):IntKind.u64.wrap (n:Int)=(n:Int):=η
@[go_sem] def cfg(t l:Int):D:=.agg [.raw (.int .i64 t),.raw (.int .i64 l)]
def QtK(n t:Nat)(hn:n<2 ^ 128)(ht:t<=65536)(qb:n*t<2 ^ 128):QW prog 251 [num n,Qa t] (QN (num (n*t))):=by
 obtain⟨hi,lo,Zq,rfl⟩:∃hi lo,lo<18446744073709551616/\n=hi*18446744073709551616+lo:=⟨n / 18446744073709551616,n % 18446744073709551616,X6 _ π,ω⟩;have hh:hi<18446744073709551616:=ω;have e1:(hi*18446744073709551616+lo) / 18446744073709551616=hi:=ω;have e2:(hi*18446744073709551616+lo) % 18446744073709551616=lo:=ω;obtain⟨A,hA⟩:∃A,A=lo*t:=⟨_,rfl⟩;obtain⟨B,hB⟩:∃B,B=hi*t:=⟨_,rfl⟩;have e3:(hi*18446744073709551616+lo)*t=B*18446744073709551616+A:=by rw[hA,hB,Vz,Pw,Mc 18446744073709551616 t,<- Pw]
 rw[e3]at qb;rw[e3];have hm:=Bm lo t Zq ω;rw[<- hA]at hm;have w1:=QtJ t ω;have w2:=Qsf hi t (by rw[<- hB];omega);rw[<- hB]at w2;have w3:=nY (A / 18446744073709551616) B ω;have r1:(B*18446744073709551616+A) / 18446744073709551616=A / 18446744073709551616+B:=by rw[Pp,Nat.add_mul_div_right _ _ π]
 have r2:(B*18446744073709551616+A) % 18446744073709551616=A % 18446744073709551616:=by rw[Pp,Nat.add_mul_mod_self_right]
 refine xT 0 func251 ntmps251 results251 λbase w hb=>?_;simp only[go_sem];simp only[e1,e2,w1,go_sem];apply ZK hb Ba hm;apply Qg hb;simp only[go_sem,w1,w2,w3];simp only[go_sem,r1,r2]
def Qfp(n t k:Nat)(hn:n<2 ^ 111)(ht:t<=65536)(hk:k<18446744073709551616):QW prog 260 [num n,Qa t,u64 k] (QN (QT (decide (65536*k<n*t)))):=by
 have h1:n*t<=n*65536:=Md n ht;have hc:=o6 (n*t) (65536*k) ω ω;have e:decide ((if n*t<65536*k then (-1:Int) else if n*t=65536*k then 0 else 1) > 0)=decide (65536*k<n*t):=by
  rw[vG];simp only[XL];(repeat' split)<;>omega
 have hm:=Bm 65536 k π hk;refine xT 0 func260 ntmps260 results260 λbase w hb=>?_;simp only[go_sem];apply ZK hb QqV (QtK n t ω ht ω);apply Qn hb;refine cT hb Ba ?_ hm ?_
 .simp only[go_sem,Qff]
 apply Qn hb;apply ZK hb mL hc;apply Qg hb;simp only[go_sem,e]
@[go_sem] def kls(l:List Qq):D:=.imm 14 l.length (Qq.rows l)
def QtL(h:List Ob):QH prog 61 h [] (λd h'=>d=.ptr (h.length+1) 0 0 0/\h'=h++[QK .i64 0 [],⟨.one,0,1,1,λ_=>[.mref h.length 0]⟩]):=by
 refine QQ func61 ntmps61 results61 λbase w pl hb=>?_;simp only[go_sem,Qe]
structure xL {α:Type} [Inhabited α] (enc:α->List D) (L:List α) (off:Nat) (row:Nat->List D):Prop where
 at_:∀i,i<L.length->row (off+i)=enc (L.getD i default)
 all:∀i,i<off+L.length->∃a,row i=enc a
def Qfq{α:Type}[Inhabited α](sz:Nat)(enc:α->List D)(L:List α)(d:D)(h:List Ob):Prop:=∃g off row,d=.ref 0 g off L.length/\h=[⟨.arr,g,sz,off+L.length,row⟩]/\xL enc L off row
def xL.nil{α:Type}[Inhabited α]{enc:α->List D}{row:Nat->List D}:xL enc [] 0 row:=⟨λi hi=>absurd hi (WZ i),λi hi=>absurd hi (WZ i)⟩
def xL.app{α:Type}[Inhabited α]{enc}{L:List α}{off}{row}(h:xL enc L off row)(x:α){r2}(h2:r2 0=enc x):xL enc (L++[x]) 0 (Kt L.length off row r2):=by
 have key:∀i,i<L.length+1->Kt L.length off row r2 i=enc ((L++[x]).getD i default):=λi hi=>by
  by_cases qh:i<L.length
  .rw[Az qh,h.at_ i qh];simp[qh,JC qh]
  .have:i=L.length:=ω;subst this;rw[xk (QB _),xg,h2];simp
 exact⟨λi hi=>by simp at hi;rw[JD];exact key i hi,λi hi=>by simp at hi;exact⟨_,key i hi⟩⟩
def xL.upto{α:Type}[Inhabited α]{enc}{L:List α}{off}{row}(h:xL enc L off row){k}(hu:∀a,AQ k (enc a)=true):∀i,i<off+L.length->AQ k (row i)=true:=λi hi=>by
 obtain⟨a,ha⟩:=h.all i hi;rw[ha];exact hu a
end Go.Fg.X
namespace Go.Fg.X
open Go.Proofs Go.Fg
open Go.Proofs.Tryz
structure Nc where
 a:Nat
 d:Nat
 b:Nat
instance:Inhabited Nc:=⟨⟨0,0,0⟩⟩
@[go_sem] def Nc.cells(c:Nc):List D:=[u64 c.a,u64 c.d,u64 c.b]
def Nc.rows(l:List Nc):Nat->List D:=λi=>(l.getD i default).cells
@[go_sem] theorem Nc.xA(l:List Nc)(i):Nc.rows l i=(l.getD i default).cells:=rfl
@[go_sem] def XD(l:List Nc):D:=.imm 3 l.length (Nc.rows l)
@[go_sem] def CC(c:Nc):D:=.agg c.cells
def Nc.of(c:Nc):Int:=Vp c.a c.d c.b
def Nc.Lt(c:Nc):Prop:=c.a<18446744073709551616/\c.d<18446744073709551616/\c.b<18446744073709551616
def Qfr(F:List Ob)(f nf:Nat)(Qs:List D)(g:Nc->Nat):Prop:=∀(h:List Ob) (c:Nc),c.Lt->Vj F h->Q6 prog f h (ZT nf Qs [CC c]) (λd=>d=num (g c))
def xM(g:Nc->Nat)(s:Nat)(c:Nc):Nat:=if c.of=0 then s else s+g c
def CD(g:Nc->Nat)(l:List Nc):Nat:=l.foldl (xM g) 0
def Qno{g}{M}(hg:∀c:Nc,c.Lt->g c<=M):∀{l:List Nc} {s:Nat},(∀c∈l,c.Lt)->l.foldl (xM g) s<=s+l.length*M
 | [],s,_=>σ
 | c::l,s,h=>by
  have h1:=hg c (h c σ);have h2:=Qno hg (l:=l) (s:=xM g s c) λx hx=>h x (by simp[hx]);have h3:xM g s c<=s+M:=by unfold xM;split<;>omega
  simp only[kD,Kv,Vz,Me];omega
def IE(n:Nat):Ob:=⟨.one,0,2,1,λ_=>[u64 (n / 18446744073709551616),u64 (n % 18446744073709551616)]⟩
structure OvI (l:List Nc) (so:D) (g:Nc->Nat) (F:List Ob) (i:Nat) (s:St):Prop where
 ex:∃G:List Ob,s=⟨[(1,so),(4,.ptr F.length 0 0 0),(5,.ptr (F.length+1) 0 0 0),(8,XD l),(9,Qa l.length),(10,Qa i)],F++(IE 0::IE ((l.take i).foldl (xM g) 0)::G)⟩
def Qfs(h:List Ob)(l:List Nc)(hl:l.length<1048576)(hc:∀c∈l,c.Lt)(so:D)(f nf:Nat)(Qs:List D)(hf:Qm prog f)(KZ:Jq so=some (f,nf,Qs))(g:Nc->Nat)(hgM:∀c:Nc,c.Lt->g c<=2 ^ 97)
  (hg:Qfr (h.map Ob.ro) f nf Qs g):Q6 prog 252 h [XD l,so] (λd=>d=num (CD g l)):=by
 refine xD func252 ntmps252 results252 λbase w pl F hF Q7 hb=>?_;simp only[go_sem,Qe];refine Z3 (OvI l so g F) l.length (s0:=⟨[(1,so),(4,.ptr F.length 0 0 0),(5,.ptr (F.length+1) 0 0 0),(8,XD l),(9,Qa l.length),(10,Qa 0)],F++[IE 0,IE 0]⟩) QM ⟨[],rfl⟩ ?_;rintro i s hi ⟨G,rfl⟩;have Zb:=J9 (show i<4611686018427387904 from ω);obtain⟨S,hS⟩:∃S,S=(l.take i).foldl (xM g) 0:=⟨_,rfl⟩;have RH:S<=2 ^ 117:=by
  have h1:=Qno hgM (l:=l.take i) (s:=0) λx hx=>hc x (List.mem_of_mem_take hx);have h2:(l.take i).length<=1048576:=ξ;have h3:=X7 (2 ^ 97) h2;rw[hS];omega
 rw[<- hS];apply Qn hb;first|refine jO hi (λQj=>?_) (λQj=>?_)|refine jP hi (λQj=>?_) (λQj=>?_)
 .obtain⟨c,V6⟩:∃c,c=l.getD i default:=⟨_,rfl⟩;have Z7:c.Lt:=hc c (by rw[V6,Q5,QP Qj];exact YU Qj);have ZO:(l.take (i+1)).foldl (xM g) 0=xM g S c:=by
   rw[Fo,QP Qj,Option.toList_some,jo,hS,V6,Q5,QP Qj];rfl
  simp only[go_sem,Qe,Qj,<- V6];apply ZK hb Nk (pz c.a c.d c.b);apply JH hb;by_cases h0:c.of=0
  .have PQ:Vp c.a c.d c.b=0:=h0;have Jv:xM g S c=S:=by rw[xM,Qd h0]
   simp only[go_sem,qN PQ,bne];refine⟨Qj,_,Qz.frame (fr':=[(1,so),(4,.ptr F.length 0 0 0),(5,.ptr (F.length+1) 0 0 0),(8,XD l),(9,Qa l.length),(10,Qa (i+1:Nat))]) (by simp only[go_sem,Zb]),⟨_,by rw[ZO,Jv]⟩⟩
  .have PQ:Vp c.a c.d c.b≠0:=h0;have Jv:xM g S c=S+g c:=by rw[xM,Qc h0]
   have hgc:=hgM c Z7;simp only[go_sem,Xl PQ,bne];have Qfu:=Sk S (g c) ω ω;rw[jq (by omega:S+g c<2 ^ 128)]at Qfu;apply QF hb [0,1,2,1003,1004,5,6,7,1008];simp only[go_sem,Qe,IE];refine Yh hb hf KZ ?_ (hg _ c Z7 (by rw[<- hF];exact⟨_,rfl⟩)) rfl λd2 hR=>?_
   .simp only[go_sem];exact Bd _
   subst hR;apply ZA hb;apply Jb hb Rz Qfu;apply Cs hb;refine⟨Qj,_,Qz.frame (fr':=[(1,so),(4,.ptr F.length 0 0 0),(5,.ptr (F.length+1) 0 0 0),(8,XD l),(9,Qa l.length),(10,Qa (i+1:Nat))]) (by simp only[go_sem,Zb]),⟨G++[⟨.one,0,3,1,λ_=>c.cells⟩],?_⟩⟩;rw[ZO,Jv];rfl
 .subst Qj;rw[q9]at hS;have e:CD g l=S:=hS.symm;rw[e];apply Qg hb;simp only[go_sem,Qe,IE];exact⟨_,rfl⟩
def QtN(h)(c:Nc)(hc:c.Lt):Q6 prog 253 h [CC c] (λd=>d=num c.b):=by
 refine xD func253 ntmps253 results253 λbase w pl F hF Q7 hb=>?_;simp only[go_sem,Qe];apply ZK hb Qdc (Qnp c.b hc.2.2);apply JH hb;exact⟨_,rfl⟩
def QtO(l:List Nc)(hl:l.length<1048576)(hc:∀c∈l,c.Lt):QW prog 199 [XD l] (QN (num (CD (λc=>c.b) l))):=by
 refine xT 0 func199 ntmps199 results199 λbase w hb=>?_;simp only[go_sem];refine Kw hb QdA rfl ?_ (Qfs _ l hl hc (.raw (.func (.func 253) ⟨[]⟩ ⟨[]⟩)) 253 0 [] QqW rfl (λc=>c.b) (λc h=>by have:=h.2.2;omega) (λh' c hc _=>QtN h' c hc)) rfl λd2 hR=>?_
 .simp only[go_sem]
 subst hR;exact qQ hb
def QtP(h:List Ob)(b1 t)(ht:t<18446744073709551616)(c:Nc)(h1:(h.map Ob.ro)[b1]? = some ⟨.Vt,0,1,1,λ_=>[u64 t]⟩):Q6 prog 256 h [CC c,.ptr b1 0 0 0] (λd=>d=num (Wj c.a c.d c.b t)):=by
 refine xD func256 ntmps256 results256 λbase w pl F hF Q7 hb=>?_;rw[<- hF]at h1;have Kx:=Qb h1;simp only[go_sem,Qe,h1,Kx];apply ZK hb Qdb (Qfh c.a c.d c.b t ht);apply JH hb;exact⟨_,rfl⟩
def QtQ(l:List Nc)(t)(ht:t<18446744073709551616)(hl:l.length<1048576)(hc:∀c∈l,c.Lt):QW prog 201 [XD l,u64 t] (QN (num (CD (λc=>Wj c.a c.d c.b t) l))):=by
 have hM:∀c:Nc,c.Lt->Wj c.a c.d c.b t<=2 ^ 97:=λc _=>by have:=Qfg c.a c.d c.b t ht;omega
 refine xT 0 func201 ntmps201 results201 λbase w hb=>?_;simp only[go_sem];have hT:Qfr (([⟨.one,0,1,1,λ_=>[u64 t]⟩,IE 0]:List Ob).map Ob.ro) 256 0 [.ptr 0 0 0 0] (λc=>Wj c.a c.d c.b t):=λh' c hc hx=>by
  obtain⟨g,rfl⟩:=hx;exact QtP _ 0 t ht c rfl
 refine Kw hb QdA rfl ?_ (Qfs _ l hl hc (.clo 256 0 [.ptr 0 0 0 0]) 256 0 [.ptr 0 0 0 0] QqZ rfl (λc=>Wj c.a c.d c.b t) hM hT) rfl λd2 hR=>?_
 .simp only[go_sem]
 subst hR;exact qQ hb
@[go_sem] theorem Ln.QER(l:Ln):l.cells=[u64 l.x,u64 (l.y / 18446744073709551616),u64 (l.y % 18446744073709551616),u64 l.m]:=rfl
def vm(c:Nc)(x y:Nat):Rn:=
 if c.of=2\/c.of=4 then ⟨⟨0,0,0⟩,⟨x,y,c.b⟩,false⟩
 else if c.of=3 then ⟨⟨x,y,c.a⟩,⟨x,(y+(c.a - c.b)*c.d) % 2 ^ 128,c.b⟩,true⟩
 else ⟨⟨0,0,0⟩,⟨x,y,0⟩,false⟩
def Ve(c:Nc)(x y:Nat):Rn:=
 if c.of=4 then ⟨⟨0,0,0⟩,⟨(x+c.d) % 18446744073709551616,y,c.b⟩,false⟩ else vm c x y
def Ln.j6:(⟨0,0,0⟩:Ln).Ok:=⟨π,π,π⟩
def eu{c:Nc}(hc:c.Lt){x y:Nat}(hx:x<18446744073709551616)(hy:y<2 ^ 128):(vm c x y).Ok:=by
 unfold vm;split
 .exact⟨Ln.j6,hx,hy,hc.2.2⟩
 .split
  .exact⟨⟨hx,hy,hc.1⟩,hx,X6 _ π,hc.2.2⟩
  .exact⟨Ln.j6,hx,hy,(by decide:(0:Nat)<18446744073709551616)⟩
def IF{c:Nc}(hc:c.Lt){x y:Nat}(hx:x<18446744073709551616)(hy:y<2 ^ 128):(Ve c x y).Ok:=by
 unfold Ve;split
 .exact⟨Ln.j6,X6 _ π,hy,hc.2.2⟩
 .exact eu hc hx hy
def ez{c:Nc}(e:c.of=2\/c.of=4)(x y):vm c x y=⟨⟨0,0,0⟩,⟨x,y,c.b⟩,false⟩:=Qd e
def Qfv{c:Nc}(e:c.of=3)(x y):vm c x y=⟨⟨x,y,c.a⟩,⟨x,(y+(c.a - c.b)*c.d) % 2 ^ 128,c.b⟩,true⟩:=by unfold vm;rw[Qc ω,Qd e]
def Qfw{c:Nc}(e:c.of=0\/c.of=1)(x y):vm c x y=⟨⟨0,0,0⟩,⟨x,y,0⟩,false⟩:=by unfold vm;rw[Qc ω,Qc ω]
def Qfx(c:Nc)(hc:c.Lt)(x y:Nat)(hx:x<18446744073709551616)(hy:y<2 ^ 128):QW prog 278 [CC c,u64 x,num y] (QN (.agg (vm c x y).cells)):=by
 refine xT 0 func278 ntmps278 results278 λbase w hb=>?_;simp only[go_sem];apply ZK hb DT (Sn c.a c.d c.b);apply Qn hb;rcases QtD c.a c.d c.b with e|e|e|e|e
 .rw[Qfw (.inl e)];simp only[go_sem,e]
 .rw[Qfw (.inr e)];simp only[go_sem,e]
 .rw[ez (.inl e)];simp only[go_sem,e]
 .have ZB:c.b<c.a/\c.a<=4294967295:=by
   unfold Vp at e
   repeat' (split at e)
   all_goals first|omega|contradiction
  have e1:=dC c.a c.b ω ω;rw[Qfv e];simp only[go_sem,e];apply QF hb Y8;simp only[go_sem,e1];apply Jb hb Ba (Bm (c.a - c.b) c.d ω hc.2.1);apply ZA hb;apply Jb hb Rz (Sk y ((c.a - c.b)*c.d) hy (Qfi ω hc.2.1));exact Iq hb
 .rw[ez (.inr e)];simp only[go_sem,e]
def pA(c:Nc)(hc:c.Lt)(x y:Nat)(hx:x<18446744073709551616)(hy:y<2 ^ 128):QW prog 277 [CC c,u64 x,num y] (QN (.agg (Ve c x y).cells)):=by
 refine xT 0 func277 ntmps277 results277 λbase w hb=>?_;simp only[go_sem];apply ZK hb QdE (Qfx c hc x y hx hy);apply Qn hb;apply ZK hb DT (Sn c.a c.d c.b);apply Qn hb;by_cases e:c.of=4
 .have e0:Vp c.a c.d c.b=4:=e;rw[ez (.inr e),show Ve c x y=⟨⟨0,0,0⟩,⟨(x+c.d) % 18446744073709551616,y,c.b⟩,false⟩ from Qd e];simp only[go_sem,e0,Ee]
 .have e0:(Vp c.a c.d c.b==4)=false:=by simpa[Nc.of] using e
  rw[show Ve c x y=vm c x y from Qc e];simp only[go_sem,e0]
def Xq(a b:Rn):Rn:=⟨if a.b then wE a.f b.f else ⟨0,0,0⟩,wE a.t b.t,a.b⟩
def pB{a b:Rn}(ha:a.Ok)(hb:b.Ok):(Xq a b).Ok:=by
 refine⟨?_,Qfn ha.t hb.t⟩;unfold Xq;dsimp only;split
 .exact Qfn ha.f hb.f
 .exact Ln.j6
def eA(a b:Rn)(ha:a.Ok)(ZB:b.Ok):QW prog 276 [.agg a.cells,.agg b.cells] (QN (.agg (Xq a b).cells)):=by
 refine xT 0 func276 ntmps276 results276 λbase w hb=>?_;simp only[go_sem];apply QF hb [0,1,2,3,5,6,1004,7,1008,1009];simp only[go_sem];apply Jb hb QdL (Qfo a.t b.t ha.t ZB.t);apply ZA hb;cases h:a.b with
 | true=>
  rw[show Xq a b=⟨wE a.f b.f,wE a.t b.t,true⟩ from by unfold Xq;rw[h];rfl];simp only[go_sem];apply ZK hb QdL (Qfo a.f b.f ha.f ZB.f);exact qQ hb
 | false=>
  rw[show Xq a b=⟨⟨0,0,0⟩,wE a.t b.t,false⟩ from by unfold Xq;rw[h];rfl];simp only[go_sem]
def XY(r:Rn)(w:Nat):Nat:=if r.b then max (vk r.f w) (vk r.t w) else vk r.t w
def Sq(r)(w):XY r w<=never:=by
 have:=Qfl r.f w;have:=Qfl r.t w;unfold XY;split<;>omega
def QtR(r:Rn):QW prog 313 [.agg r.cells] (QN (.agg ((if r.b then r.f else r.t).cells++r.t.cells))):=by
 refine xT 0 func313 ntmps313 results313 λbase w hb=>?_;simp only[go_sem];cases h:r.b with
 | true=>
  simp only[go_sem]
 | false=>
  simp only[go_sem]
def Qfy(a:Nat):max (0:Int) (a:Int)=(a:Int):=ω
def eC(r:Rn)(hr:r.Ok)(v)(hv:v<2 ^ 128):QW prog 288 [.agg r.cells,num v] (QN (u64 (XY r v))):=by
 have m1:∀a b:Nat,max (a:Int) (b:Int)=((max a b:Nat):Int):=λa b=>ω;refine xT 0 func288 ntmps288 results288 λbase w hb=>?_;simp only[go_sem];apply ZK hb Qrh (QtR r);apply Qn hb;cases h:r.b with
 | true=>
  rw[show XY r v=max (vk r.f v) (vk r.t v) from by unfold XY;rw[h];rfl];simp only[go_sem];refine wv 2 ?_;apply Qn hb;apply ZK hb cK (eh r.f hr.f v hv);apply Qg hb;simp only[go_sem,Qfy];apply Qn hb;apply Qn hb;apply ZK hb cK (eh r.t hr.t v hv);apply Qg hb;simp only[go_sem,m1];apply Qn hb;exact qQ hb
 | false=>
  rw[show XY r v=max (vk r.t v) (vk r.t v) from by unfold XY;rw[h];simp];simp only[go_sem];refine wv 2 ?_;apply Qn hb;apply ZK hb cK (eh r.t hr.t v hv);apply Qg hb;simp only[go_sem,Qfy];apply Qn hb;apply Qn hb;apply ZK hb cK (eh r.t hr.t v hv);apply Qg hb;simp only[go_sem,m1];apply Qn hb;exact qQ hb
def VO(n:Nat):Nat:=n % 18446744073709551616
def IG(n):VO n<18446744073709551616:=X6 _ π
def Qfz(a b:Nat):IntKind.u64.wrap ((a:Int)+(b:Int))=((VO (a+b):Nat):Int):=Ee a b
structure Du where
 has:Bool
 dl:Rn
 rd:Rn
 JL:Nat
 XZ:Nat
 dead:Nat
deriving DecidableEq
instance:Inhabited Du:=⟨⟨false,default,default,0,0,0⟩⟩
structure Du.Ok (d:Du):Prop where
 dl:d.dl.Ok
 rd:d.rd.Ok
 JL:d.JL<18446744073709551616
 XZ:d.XZ<=never
 dead:d.dead<=never
@[go_sem] def Du.cells(d:Du):List D:=[QT d.has,u64 d.dl.f.x,u64 (d.dl.f.y / 18446744073709551616),u64 (d.dl.f.y % 18446744073709551616),u64 d.dl.f.m,u64 d.dl.t.x,u64 (d.dl.t.y / 18446744073709551616),u64 (d.dl.t.y % 18446744073709551616),u64 d.dl.t.m,QT d.dl.b,
 u64 d.rd.f.x,u64 (d.rd.f.y / 18446744073709551616),u64 (d.rd.f.y % 18446744073709551616),u64 d.rd.f.m,u64 d.rd.t.x,u64 (d.rd.t.y / 18446744073709551616),u64 (d.rd.t.y % 18446744073709551616),u64 d.rd.t.m,QT d.rd.b,u64 d.JL,u64 d.XZ,u64 d.dead]
def Bo(l:Du)(head:Int):Du:=
 if 0<head then ⟨l.has,l.dl,l.rd,l.JL,XY l.rd (l.JL*65536),XY l.dl (VO (l.JL+head.toNat)*65536)⟩ else ⟨l.has,l.dl,l.rd,l.JL,never,never⟩
def pC{l:Du}(h1:l.dl.Ok)(h2:l.rd.Ok)(h3:l.JL<18446744073709551616)(head:Int):(Bo l head).Ok:=by
 unfold Bo;split
 .exact⟨h1,h2,h3,Sq _ _,Sq _ _⟩
 .exact⟨h1,h2,h3,QB _,QB _⟩
def eD(n)(hn:n<18446744073709551616):QW prog 275 [u64 n] (QN (num (n*65536))):=by
 refine xT 0 func275 ntmps275 results275 λbase w hb=>?_;simp only[go_sem];apply ZK hb Ba (Bm n 65536 hn π);exact qQ hb
def II{n:Int}(h1:0<=n)(h2:n<18446744073709551616):IntKind.u64.wrap n=((n.toNat:Nat):Int):=η
def pD(l:Du)(h1:l.dl.Ok)(h2:l.rd.Ok)(h3:l.JL<18446744073709551616)(head:Int)(hh:head<9223372036854775808):QW prog 279 [.agg l.cells,Qa head] (QN (.agg (Bo l head).cells)):=by
 have b1:∀n:Nat,n<18446744073709551616->n*65536<2 ^ 128:=λn hn=>ω;by_cases h:0<head
 .have d1:=QU h;have e1:=II (n:=head) ω ω;rw[show Bo l head=⟨l.has,l.dl,l.rd,l.JL,XY l.rd (l.JL*65536),XY l.dl (VO (l.JL+head.toNat)*65536)⟩ from Qd h];refine xT 0 func279 ntmps279 results279 λbase w hb=>?_;simp only[go_sem];simp only[go_sem,d1];apply QF hb [0,1,2,3,1004,1005,6,1007];simp only[go_sem];apply Jb hb cG (eD l.JL h3);apply ZA hb;apply Jb hb cI (eC l.rd h2 (l.JL*65536) (b1 _ h3));apply ZA hb;apply QF hb [0,1,2,3,4,5,6,1007,1008,9,1010];simp only[go_sem,e1,Qfz];apply Jb hb cG (eD (VO (l.JL+head.toNat)) (IG _));apply ZA hb;apply Jb hb cI (eC l.dl h1 (VO (l.JL+head.toNat)*65536) (b1 _ (IG _)));exact Iq hb
 .have d1:=QI h;rw[show Bo l head=⟨l.has,l.dl,l.rd,l.JL,never,never⟩ from Qc h];refine xT 0 func279 ntmps279 results279 λbase w hb=>?_;simp only[go_sem];simp only[go_sem,d1];rfl
def eF(l:Du)(Jz head:Int):Du:=Bo { l with JL:=VO (l.JL+Jz.toNat) } head
def QtS(l:Du)(h1:l.dl.Ok)(h2:l.rd.Ok)(h3:l.JL<18446744073709551616)(Jz head:Int)(Yk:0<=Jz)(hs:Jz<9223372036854775808)(hh:head<9223372036854775808):QW prog 289 [.agg l.cells,Qa Jz,Qa head] (QN (.agg (eF l Jz head).cells)):=by
 have e0:max Jz 0=Jz:=ω;have e1:=II (n:=Jz) Yk ω;refine xT 0 func289 ntmps289 results289 λbase w hb=>?_;simp only[go_sem];simp only[go_sem,e0,e1,Qfz];apply ZK hb mZ (pD { l with JL:=VO (l.JL+Jz.toNat) } h1 h2 (IG _) head hh);apply Qn hb;rfl
def QtT(l:Du)(h1:l.dl.Ok)(h2:l.rd.Ok)(h3:l.JL<18446744073709551616)(head:Int)(hh:head<9223372036854775808):QW prog 291 [.agg l.cells,Qa head] (QN (.agg (Bo l head).cells)):=by
 refine xT 0 func291 ntmps291 results291 λbase w hb=>?_;simp only[go_sem];apply ZK hb mZ (pD l h1 h2 h3 head hh);exact qQ hb
structure Qu where
 l:List Pk
 ci:Nat
 co:Nat
 cd:Nat
 bi:Nat
 bo:Nat
 bd:Nat
instance:Inhabited Qu:=⟨⟨[],0,0,0,0,0,0⟩⟩
def XE:List Pk->Nat
 | []=>0
 | p::l=>p.len.toNat+XE l
def QtU(l m):XE (l++m)=XE l+XE m:=by
 induction l with
 | nil=>simp[XE]
 | cons p l ih=>simp only[YT,XE,ih];omega
def NP(p:Pk):Prop:=1<=p.len/\p.len<=16384
def QfA{l:List Pk}(h:∀p∈l,NP p):XE l<=16384*l.length:=by
 induction l with
 | nil=>simp[XE]
 | cons p l ih=>
  have h1:=h p σ;have h2:=ih λq hq=>h q (by simp[hq]);unfold NP at h1;simp only[XE,Kv];omega
@[go_sem] def Qu.Sr(q:Qu):List D:=[u64 q.ci,u64 q.co,u64 q.cd,u64 q.bi,u64 q.bo,u64 q.bd]
def j7(ZD room:Int)(q:Qu)(p:Pk):Bool:=decide (room<XE q.l+p.len) || decide ((q.l.length:Int)=ZD)
def Xa(ZD room:Int)(q:Qu)(p:Pk):Qu:=
 if j7 ZD room q p then { q with cd:=VO (q.cd+1),bd:=VO (q.bd+p.len.toNat) }
 else { q with l:=q.l++[p],ci:=VO (q.ci+1),bi:=VO (q.bi+p.len.toNat) }
def WI(q:Qu):Qu:={ q with l:=q.l.tail,co:=VO (q.co+1),bo:=VO (q.bo+(q.l.headD default).len.toNat) }
def yU(q:Qu):Int:=match q.l with|[]=>0|p::_=>p.len
@[go_sem] def NQ(r:Nat)(room:Int)(q:Qu):Ob:=⟨.one,0,9,1,λ_=>[.ptr r 0 0 0,Qa room,Qa (XE q.l:Nat),u64 q.ci,u64 q.co,u64 q.cd,u64 q.bi,u64 q.bo,u64 q.bd]⟩
structure pE (S:Nat->Prop) (h:List Ob) (p r ZD:Nat) (room:Int) (q:Qu):Prop where
 o:h[p]? = some (NQ r room q)
 ring:j5 (λl=>S l/\l≠p) h r ZD q.l
 rp:r≠p
 sp:S p
 lens:∀x∈q.l,NP x
 r0:0<=room
 r1:room<=1048576
def vn(S:Nat->Prop)(h:List Ob)(p ZD:Nat)(room:Int)(q:Qu):Prop:=∃r,pE S h p r ZD room q
def j5.step{S S'}{h h':List Ob}{r room}{L}(e:∀l,l<h.length->S l->S' l/\h'[l]? = h[l]?):j5 S h r room L->j5 S' h' r room L:=λ⟨a,f,row,T⟩=>
 ⟨a,f,row,((e _ (Qb T.o) T.sr).2).trans T.o,((e _ (Qb T.ao) T.sa).2).trans T.ao,T.ra,T.fl,T.len,T.xK,T.rows,T.lens,(e _ (Qb T.o) T.sr).1,(e _ (Qb T.ao) T.sa).1⟩
def j5.pF{S}{h}{r room}{L:List Pk}:j5 S h r room L->L.length<=room/\room<=64:=λ⟨a,f,row,T⟩=>⟨T.len,T.xK⟩
def vn.step{S S'}{h h':List Ob}{p ZD}{room}{q}(e:∀l,l<h.length->S l->S' l/\h'[l]? = h[l]?):vn S h p ZD room q->vn S' h' p ZD room q:=λ⟨r,Q⟩=>
 ⟨r,((e _ (Qb Q.o) Q.sp).2).trans Q.o,Q.ring.step λl hl ⟨h1,h2⟩=>⟨⟨(e l hl h1).1,h2⟩,(e l hl h1).2⟩,Q.rp,(e _ (Qb Q.o) Q.sp).1,Q.lens,Q.r0,Q.r1⟩
structure QtV (h:List Ob) (p r ZD:Nat) (room:Int) (q:Qu):Prop where
 o:(h.map Ob.ro)[p]? = some (NQ r room q).ro
 ring:Sj h r ZD q.l
def NR(h:List Ob)(p ZD:Nat)(room:Int)(q:Qu):Prop:=∃r,QtV h p r ZD room q
def vn.toR{S}{h}{p ZD}{room}{q}:vn S h p ZD room q->NR h p ZD room q:=λ⟨r,Q⟩=>⟨r,ZC Q.o,Q.ring.toR⟩
def NR.more{h h':List Ob}{p ZD}{room}{q}(e:∀(l:Nat) (o:Ob),(h.map Ob.ro)[l]? = some o->(h'.map Ob.ro)[l]? = some o):NR h p ZD room q->NR h' p ZD room q:=λ⟨r,Q⟩=>⟨r,e _ _ Q.o,Q.ring.more e⟩
section
variable {h:List Ob}{p ZD:Nat}{room:Int}{q:Qu}(Q:NR h p ZD room q)
include Q
theorem NS:Q6 prog 182 h [.ptr p 0 0 0] (λd=>d=Qa q.l.length):=by
 obtain⟨r,ho,hr⟩:=Q;refine xD func182 ntmps182 results182 λbase w pl F hF Q7 hb=>?_;rw[<- hF]at ho;have Ql:=Qb ho;simp only[go_sem,ho];obtain⟨a,f,row,T⟩:=hr;apply ZQ hb QqD (Qtk (T.more (KC hF)));apply Qn hb;all_goals exact cD
theorem QtW:Q6 prog 155 h [.ptr p 0 0 0] (λd=>d=.agg q.Sr):=by
 obtain⟨r,ho,hr⟩:=Q;refine xD func155 ntmps155 results155 λbase w pl F hF Q7 hb=>?_;rw[<- hF]at ho;have Ql:=Qb ho;simp only[go_sem,Qe,ho,Ql];all_goals exact cD
theorem QfB:Q6 prog 290 h [.ptr p 0 0 0] (λd=>d=Qa (yU q)):=by
 have Q0:=Q;obtain⟨r,ho,hr⟩:=Q;obtain⟨a,f,row,T⟩:=hr;unfold yU;cases hl:q.l with
 | nil=>
  refine xD func290 ntmps290 results290 λbase w pl F hF Q7 hb=>?_;rw[<- hF]at ho;have Ql:=Qb ho;simp only[go_sem];apply ZQ hb Np (NS (Q0.more (KC hF)));apply Qg hb;simp only[go_sem,hl];all_goals exact cD
 | cons x l=>
  have d0:(((l.length+1:Nat):Int)==0)=false:=ξ;refine xD func290 ntmps290 results290 λbase w pl F hF Q7 hb=>?_;rw[<- hF]at ho;have Ql:=Qb ho;simp only[go_sem];apply ZQ hb Np (NS (Q0.more (KC hF)));apply Qg hb;simp only[go_sem,ho,hl,d0];apply ZQ hb QdP (Qfa (T.more (KC hF)) 0 (by rw[hl];simp));apply Qg hb;simp only[go_sem,Qe,hl];all_goals exact cD
end
def QtX(h:List Ob)(n:Nat)(room:Int)(h1:1<=n)(h2:n<=64)(h3:1<=room)(h4:room<=1048576):QH prog 183 h [Qa n,Qa room] (λd h'=>d=.tup [.ptr (h.length+2) 0 0 0,Qa 0]/\vn (λl=>h.length<=l) h' (h.length+2) n room ⟨[],0,0,0,0,0,0⟩/\∃g,h'=h++g/\g.length=3):=by
 have d1:decide (room<1)=false:=QI ω;have d2:decide (1048576<room)=false:=QI ω;refine QQ func183 ntmps183 results183 λbase w pl hb=>?_;simp only[go_sem];refine Zw hb QqE (Qto h n h1 h2) λd h hR=>?_;obtain⟨rfl,R,g,rfl,hg⟩:=hR;apply Qg hb;simp only[go_sem,Qe,d1,d2];have hl:(h++g).length=h.length+2:=by rw[ZW,hg]
 refine⟨by rw[hg],⟨h.length+1,?_,?_,ω,by show h.length<=_;omega,σ,ω,ω⟩,g++[NQ (h.length+1) room ⟨[],0,0,0,0,0,0⟩],by rfl,by simp[hg]⟩
 .rw[show h.length+2=(h++g).length by omega];rw[<- V9,Kb (QB _),xg];rfl
 .rw[<- V9];refine R.step λl Jj Jp=>⟨⟨Jp,ω⟩,JC Jj⟩
def Ss(a b:Nat):IntKind.u64.wrap ((a:Int)+(b:Int))=((VO (a+b):Nat):Int):=Ee a b
def eG(a:Nat):IntKind.u64.wrap ((a:Int)+1)=((VO (a+1):Nat):Int):=Ee a 1
def pE.fin{S}{h H:List Ob}{p r ZD}{room}{q q':Qu}(Q:pE S h p r ZD room q)(hp:H[p]? = some (NQ r room q'))(hl:∀l,l<h.length->l≠p->H[l]? = h[l]?)(hn:h.length<=H.length)(e:q'.l=q.l):vn S H p ZD room q'/\Step S h H:=
 ⟨⟨r,hp,by rw[e];exact Q.ring.step λl h1 h2=>⟨h2,hl l h1 h2.2⟩,Q.rp,Q.sp,by rw[e];exact Q.lens,Q.r0,Q.r1⟩,⟨λl h1 h2=>hl l h1 λe2=>h2 (e2▸Q.sp),hn⟩⟩
def QtY{S}{h}{p ZD}{room}{q}(Q:vn S h p ZD room q)(x)(hx:NP x):
  QH prog 186 h [.ptr p 0 0 0,.agg x.cells] (λd h'=>d=Qa (if j7 ZD room q x then 30 else 0)/\vn S h' p ZD room (Xa ZD room q x)/\Step S h h'):=by
 obtain⟨r,Q⟩:=Q;have ho:=Q.o;have hR:=Q.ring;have Xz:=hx.1;have Wf:=hx.2;have hle:=hR.pF;have qR:=QfA Q.lens;have WQ:=Q.r0;have We:=Q.r1;have d1:decide (x.len<1)=false:=QI ω;have d2:decide (16384<x.len)=false:=QI ω;have e1:IntKind.i64.wrap (room - (XE q.l:Nat))=room - (XE q.l:Nat):=wrap64 ω ω;have e2:IntKind.u64.wrap x.len=((x.len.toNat:Nat):Int):=II ω ω;by_cases J5:room<XE q.l+x.len
 .have d3:decide (room - (XE q.l:Nat)<x.len)=true:=QU ω;have hf:j7 ZD room q x=true:=by unfold j7;rw[QU J5];rfl
  unfold Xa;rw[hf];refine QQ func186 ntmps186 results186 λbase w pl hb=>?_;have Ql:=Qb ho;simp only[go_sem,Qe,d1,d2];apply QF hb [0,1,2,3,4,5,6,7,8,9,10,11,12,13,14,15,16,17,1018,19,20,21];simp only[go_sem,Qe,ho,Ql,e1,d3,eG];apply QF hb O1;simp only[go_sem,Qe,Ql,e2,QE Ql,Ss];refine Q.fin (q':={ q with cd:=VO (q.cd+1),bd:=VO (q.bd+x.len.toNat) }) ?_ ?_ ?_ rfl
  .rw[QG (by simpa using Ql),QE Ql];rfl
  .intro l h1 h2;rw[QG (by simpa using h1),Qr (Q3 h2)]
  .simp
 .have d3:decide (room - (XE q.l:Nat)<x.len)=false:=QI ω;refine QQ func186 ntmps186 results186 λbase w pl hb=>?_;have Ql:=Qb ho;simp only[go_sem,Qe,d1,d2];apply Vk [18] hb [0,1,2,3,4,5,6,7,8,9,10,11,12,13,14,15,16,17,1018,19,20,21] [];simp only[go_sem,Qe,ho,Ql,e1,d3];have eI:=hR.step (S':=λl=>S l/\l≠p/\l<h.length) (h':=h++[⟨.one,0,6,1,λ_=>x.cells⟩]) λl h1 h2=>⟨⟨h2.1,h2.2,h1⟩,QG h1⟩;refine jZ hb QqF (Qtl eI x) λd h6 pG=>?_;obtain⟨rfl,R6,s6⟩:=pG;have IJ:h.length<h6.length:=by have:=s6.len;simp only[ZW,kE]at this;omega
  have Gz:h6[p]? = some (NQ r room q):=(s6.keep p ξ (λh=>h.2.1 rfl)).trans ((QG Ql).trans ho);have Bp:=Qb Gz;have Ew:=(s6.keep h.length σ (λh=>by have:=h.2.2;omega)).trans (KV rfl);have keep:∀l,l<h.length->¬ S l->h6[l]? = h[l]? := λl h1 h2=>(s6.keep l ξ (λh=>h2 h.1)).trans (QG h1);have eJ:p≠h.length:=ω;apply ZH hb;by_cases hlen:q.l.length=ZD
  .have hf:j7 ZD room q x=true:=by unfold j7;rw[QU (show (q.l.length:Int)=(ZD:Int) from ω)];simp
   rw[Qd hlen]at R6;simp only[go_sem,Qd hlen,Gz,eG];apply QF hb O1;simp only[go_sem,Qe,e2,QE Bp,Ss,Ew,Qr eJ];unfold Xa;rw[hf];refine⟨by rfl,⟨r,?_,R6.step λl h1 h2=>⟨⟨h2.1,h2.2.1⟩,?_⟩,Q.rp,Q.sp,Q.lens,Q.r0,Q.r1⟩,⟨λl h1 h2=>?_,?_⟩⟩
   .rw[QE Bp];rfl
   .rw[Qr (Q3 h2.2.1)]
   .rw[Qr (λ(e:p=l)=>h2 (e▸Q.sp))];exact keep l h1 h2
   .simp;omega
  .have hf:j7 ZD room q x=false:=by unfold j7;rw[QI J5,QI (show ¬ (q.l.length:Int)=(ZD:Int) from ω)];rfl
   have e4:IntKind.i64.wrap (((XE q.l:Nat):Int)+x.len)=((XE (q.l++[x]):Nat):Int):=by
    rw[QtU];simp only[XE];rw[wrap64 ω ω];omega
   rw[Qc hlen]at R6;simp only[go_sem,Qc hlen];apply QF hb ot;simp only[go_sem,Qe,Gz,QE Bp,eG,Ew,e4];apply QF hb O1;simp only[go_sem,Qe,e2,QE Bp,Ss,Ew,Qr eJ];unfold Xa;rw[hf];refine⟨by rfl,⟨r,?_,R6.step λl h1 h2=>⟨⟨h2.1,h2.2.1⟩,?_⟩,Q.rp,Q.sp,?_,Q.r0,Q.r1⟩,⟨λl h1 h2=>?_,?_⟩⟩
   .rw[QE Bp];rfl
   .rw[Qr (Q3 h2.2.1)]
   .intro y hy;rcases QX.1 hy with hy|hy
    .exact Q.lens y hy
    .rw[q8.1 hy];exact hx
   .rw[Qr (λ(e:p=l)=>h2 (e▸Q.sp))];exact keep l h1 h2
   .simp;omega
def QtZ{S}{h}{p ZD}{room}{q:Qu}{x}{L}(Q:vn S h p ZD room q)(hq:q.l=x::L):
  QH prog 237 h [.ptr p 0 0 0] (λd h'=>d=.tup [.agg x.cells,Qa 0]/\vn S h' p ZD room (WI q)/\Step S h h'):=by
 obtain⟨r,Q⟩:=Q;have ho:=Q.o;have hR:=Q.ring;have hx:=Q.lens x (by rw[hq];simp);have Xz:=hx.1;have Wf:=hx.2;have hle:=hR.pF;have qR:=QfA Q.lens;have e2:IntKind.u64.wrap x.len=((x.len.toNat:Nat):Int):=II ω ω;have e4:IntKind.i64.wrap (((XE q.l:Nat):Int) - x.len)=((XE L:Nat):Int):=by
  have e5:XE q.l=x.len.toNat+XE L:=by rw[hq];rfl
  rw[wrap64 ω ω];omega
 refine QQ func237 ntmps237 results237 λbase w pl hb=>?_;have Ql:=Qb ho;simp only[go_sem,Qe,ho,Ql];have eI:=hR.step (S':=λl=>S l/\l≠p/\l<h.length) (h':=h++[⟨.one,0,6,1,λ_=>(default:Pk).cells⟩]) λl h1 h2=>⟨⟨h2.1,h2.2,h1⟩,QG h1⟩;rw[hq]at eI;refine Zw hb Qq9 (Qtm eI) λd h6 pG=>?_;obtain⟨rfl,R6,s6⟩:=pG;have IJ:h.length<h6.length:=by have:=s6.len;simp only[ZW,kE]at this;omega
 have Gz:h6[p]? = some (NQ r room q):=(s6.keep p ξ (λh=>h.2.1 rfl)).trans ((QG Ql).trans ho);have Bp:=Qb Gz;have Ew:=(s6.keep h.length σ (λh=>by have:=h.2.2;omega)).trans (KV rfl);have keep:∀l,l<h.length->¬ S l->h6[l]? = h[l]? := λl h1 h2=>(s6.keep l ξ (λh=>h2 h.1)).trans (QG h1);have eJ:p≠h.length:=ω;apply JH hb;apply QF hb ot;simp only[go_sem,Qe,Gz,Bp,QE Bp,eG,e4];apply QF hb O1;simp only[go_sem,Qe,Bp,e2,QE,Ss,Ew,IJ,Qr eJ];have key:∀(A B C:Ob) (l:Nat),l<h.length->(((h6.set p A).set h.length B)++[C])[l]? = (h6.set p A)[l]? := λA B C l h1=>by
  rw[QG ξ,Qr ω]
 have eq:(WI q).l=L:=by simp[WI,hq]
 refine⟨⟨r,?_,?_,Q.rp,Q.sp,?_,Q.r0,Q.r1⟩,⟨λl h1 h2=>?_,?_⟩⟩
 .rw[key _ _ _ _ Ql,QE Bp,WI,hq];rfl
 .rw[eq];refine R6.step λl h1 h2=>⟨⟨h2.1,h2.2.1⟩,?_⟩;rw[key _ _ _ _ h2.2.2,Qr (Q3 h2.2.1)]
 .intro y hy;rw[eq]at hy;exact Q.lens y (by rw[hq];simp[hy])
 .rw[key _ _ _ _ h1,Qr (λ(e:p=l)=>h2 (e▸Q.sp))];exact keep l h1 h2
 .simp;omega
def yV(l:Du)(wF new:Rn):Rn:=if l.has then Xq wF new else new
def eK{l}{wF new:Rn}(h1:wF.Ok)(h2:new.Ok):(yV l wF new).Ok:=by unfold yV;split;exact pB h1 h2;exact h2
def z7(l:Du)(c:Nc)(now:Nat)(head:Int):Du:=
 Bo ⟨true,yV l l.dl (Ve c now (l.JL*65536)),yV l l.rd (vm c now (l.JL*65536)),l.JL,l.XZ,l.dead⟩ head
section
variable {h:List Ob}{b1 b2 b3:Nat}(l:Du)(h3:l.JL<18446744073709551616)(c:Nc)(hc:c.Lt)(now:Nat)(hn:now<18446744073709551616)
 (o1:(h.map Ob.ro)[b1]? = some ⟨.Vt,0,3,1,λ_=>c.cells⟩) (o2:(h.map Ob.ro)[b2]? = some ⟨.Vt,0,1,1,λ_=>[u64 now]⟩) (o3:(h.map Ob.ro)[b3]? = some ⟨.Vt,0,22,1,λ_=>l.cells⟩)
include h3 hc hn o1 o2 o3
theorem Qt0(wF:Rn)(hw:wF.Ok):Q6 prog 274 h [.agg wF.cells,.raw (.func (.func 277) #[] #[]),.ptr b1 0 0 0,.ptr b2 0 0 0,.ptr b3 0 0 0] (λd=>d=.agg (yV l wF (Ve c now (l.JL*65536))).cells):=by
 have hs:=IF hc hn (y:=l.JL*65536) ω;refine xD func274 ntmps274 results274 λbase w pl F hF Q7 hb=>?_;rw[<- hF]at o1 o2 o3;have pH:=Qb o1;have pI:=Qb o2;have Su:=Qb o3;simp only[go_sem,Qe];apply QF hb [0,1,2,3,4,1005,1006,1007,1008];simp only[go_sem,Qe,o1,pH,o2,pI,o3,Su];apply Jb hb cG (eD l.JL h3);apply Cs hb;apply Jb hb mY (pA c hc now (l.JL*65536) hn ω);apply ZH hb;simp only[go_sem,Qe,o3,Su];unfold yV;cases hh:l.has with
 | true=>
  simp only[go_sem,Qe];apply ZK hb cH (eA wF _ hw hs);apply JH hb;all_goals exact cD
 | false=>
  simp only[go_sem,Qe];all_goals exact cD
theorem Qt1(wF:Rn)(hw:wF.Ok):Q6 prog 274 h [.agg wF.cells,.raw (.func (.func 278) #[] #[]),.ptr b1 0 0 0,.ptr b2 0 0 0,.ptr b3 0 0 0] (λd=>d=.agg (yV l wF (vm c now (l.JL*65536))).cells):=by
 have hs:=eu hc hn (y:=l.JL*65536) ω;refine xD func274 ntmps274 results274 λbase w pl F hF Q7 hb=>?_;rw[<- hF]at o1 o2 o3;have pH:=Qb o1;have pI:=Qb o2;have Su:=Qb o3;simp only[go_sem,Qe];apply QF hb [0,1,2,3,4,1005,1006,1007,1008];simp only[go_sem,Qe,o1,pH,o2,pI,o3,Su];apply Jb hb cG (eD l.JL h3);apply Cs hb;apply Jb hb QdE (Qfx c hc now (l.JL*65536) hn ω);apply ZH hb;simp only[go_sem,Qe,o3,Su];unfold yV;cases hh:l.has with
 | true=>
  simp only[go_sem,Qe];apply ZK hb cH (eA wF _ hw hs);apply JH hb;all_goals exact cD
 | false=>
  simp only[go_sem,Qe];all_goals exact cD
end
def Qt2(l:Du)(hl:l.Ok)(c:Nc)(hc:c.Lt)(now)(hn:now<18446744073709551616)(head:Int)(hh:head<9223372036854775808):QW prog 230 [.agg l.cells,CC c,u64 now,Qa head] (QN (.agg (z7 l c now head).cells)):=by
 have h3:=hl.JL;have hs:=IF hc hn (y:=l.JL*65536) ω;have hr:=eu hc hn (y:=l.JL*65536) ω;refine xT 0 func230 ntmps230 results230 λbase w hb=>?_;simp only[go_sem];apply QF hb [0,1,2,4,5,6,1003,8,1007,1009,10,1011];simp only[go_sem];apply Wz hb QdD (Qt0 (b1:=1) (b2:=2) (b3:=0) l h3 c hc now hn rfl rfl rfl l.dl hl.dl);apply ZA hb;apply Wz hb QdD (Qt1 (b1:=1) (b2:=2) (b3:=0) l h3 c hc now hn rfl rfl rfl l.rd hl.rd);apply ZA hb;apply ZK hb mZ (pD ⟨true,yV l l.dl (Ve c now (l.JL*65536)),yV l l.rd (vm c now (l.JL*65536)),l.JL,l.XZ,l.dead⟩ (eK hl.dl hs) (eK hl.rd hr) h3 head hh);apply Qn hb;rfl
def pJ{l:Du}(hl:l.Ok){c:Nc}(hc:c.Lt){now}(hn:now<18446744073709551616)(head:Int):(z7 l c now head).Ok:=by
 have h3:=hl.JL;exact pC (l:=⟨true,yV l l.dl (Ve c now (l.JL*65536)),yV l l.rd (vm c now (l.JL*65536)),l.JL,l.XZ,l.dead⟩) (eK hl.dl (IF hc hn (y:=l.JL*65536) ω)) (eK hl.rd (eu hc hn (y:=l.JL*65536) ω)) h3 head
structure Sh where
 has:Bool
 run:Rn
 time:Nat
deriving DecidableEq
instance:Inhabited Sh:=⟨⟨false,default,0⟩⟩
structure Sh.Ok (x:Sh):Prop where
 run:x.run.Ok
 time:x.time<18446744073709551616
@[go_sem] def Sh.cells(x:Sh):List D:=[QT x.has,u64 x.run.f.x,u64 (x.run.f.y / 18446744073709551616),u64 (x.run.f.y % 18446744073709551616),u64 x.run.f.m,u64 x.run.t.x,u64 (x.run.t.y / 18446744073709551616),u64 (x.run.t.y % 18446744073709551616),u64 x.run.t.m,QT x.run.b,u64 x.time]
def Ex(r:Rn)(total:Nat):Nat:=if r.b then max (max (XY r (total*65536)) r.t.x) r.f.x else max (XY r (total*65536)) r.t.x
def QfC{r:Rn}(h:r.Ok)(total):Ex r total<18446744073709551616:=by
 have h1:=Sq r (total*65536);have h2:=h.t.x;have h3:=h.f.x;unfold never at h1;unfold Ex;split<;>omega
def Qsr(a b:Nat):max (a:Int) (b:Int)=((max a b:Nat):Int):=ω
def QfD(a:Nat):max (0:Int) (a:Int)=(a:Int):=ω
def Qt3{h:List Ob}{b g}{row}(o:(h.map Ob.ro)[b]? = some ⟨.yl,g,1,2,row⟩)(x y)(e0:row 0=[u64 x])(e1:row 1=[u64 y]):Q6 prog 310 h [.ref b g 0 2] (λd=>d=u64 (max x y)):=by
 refine xD func310 ntmps310 results310 λbase w pl F hF Q7 hb=>?_;rw[<- hF]at o;have o_l:=Qb o;simp only[go_sem];refine wv 2 ?_;apply Qg hb;simp only[go_sem,o,e0];apply Qg hb;simp only[go_sem,o,e1,QfD,Qsr];apply Qn hb;apply Qn hb;all_goals exact cD
def Qt5{h:List Ob}{b g}{row}(o:(h.map Ob.ro)[b]? = some ⟨.yl,g,1,3,row⟩)(x y z)(e0:row 0=[u64 x])(e1:row 1=[u64 y])(e2:row 2=[u64 z]):Q6 prog 310 h [.ref b g 0 3] (λd=>d=u64 (max (max x y) z)):=by
 refine xD func310 ntmps310 results310 λbase w pl F hF Q7 hb=>?_;rw[<- hF]at o;have o_l:=Qb o;simp only[go_sem];refine wv 3 ?_;apply Qg hb;simp only[go_sem,o,e0];apply Qg hb;simp only[go_sem,o,e1,QfD,Qsr];apply Qg hb;simp only[go_sem,o,e2,Qsr];apply Qn hb;apply Qn hb;all_goals exact cD
def pK(r:Rn)(hr:r.Ok)(total)(ht:total<18446744073709551616):QW prog 283 [.agg r.cells,u64 total] (QN (u64 (Ex r total))):=by
 unfold Ex;refine xT 0 func283 ntmps283 results283 λbase w hb=>?_;simp only[go_sem];apply QF hb [0,1,1002,1003,4];simp only[go_sem];apply Jb hb Ba (Bm total 65536 ht π);apply ZA hb;apply Jb hb cI (eC r hr (total*65536) ω);apply ZA hb;cases h:r.b with
 | true=>
  simp only[go_sem];apply ZQ hb QdO (Qt5 (b:=1) (g:=0) (by exact rfl) (XY r (total*65536)) r.t.x r.f.x (by exact rfl) (by exact rfl) (by exact rfl));exact qQ hb
 | false=>
  simp only[go_sem];apply ZQ hb QdO (Qt3 (b:=1) (g:=0) (by exact rfl) (XY r (total*65536)) r.t.x (by exact rfl) (by exact rfl));exact qQ hb
def IK(x:Sh)(c:Nc)(low total:Nat):Sh:=
 ⟨true,if x.has then Xq x.run (Ve c low (total*65536)) else Ve c low (total*65536),Ex (if x.has then Xq x.run (Ve c low (total*65536)) else Ve c low (total*65536)) total⟩
def GA(x:Sh)(total:Nat):Sh:=if x.has then ⟨true,x.run,Ex x.run total⟩ else x
def pL{x:Sh}(hx:x.Ok){c:Nc}(hc:c.Lt){low total}(hl:low<18446744073709551616)(ht:total<18446744073709551616):(if x.has then Xq x.run (Ve c low (total*65536)) else Ve c low (total*65536)).Ok:=by
 have h1:=IF hc hl (y:=total*65536) ω;split
 .exact pB hx.run h1
 .exact h1
def Qt6{x:Sh}(hx:x.Ok){c:Nc}(hc:c.Lt){low total:Nat}(hl:low<18446744073709551616)(ht:total<18446744073709551616):(IK x c low total).Ok:=
 ⟨pL hx hc hl ht,QfC (pL hx hc hl ht) _⟩
def Qt7{x:Sh}(hx:x.Ok)(total:Nat):(GA x total).Ok:=by
 unfold GA;split
 .exact⟨hx.run,QfC hx.run _⟩
 .exact hx
def Qt8(x:Sh)(hx:x.Ok)(c:Nc)(hc:c.Lt)(low total:Nat)(hl:low<18446744073709551616)(ht:total<18446744073709551616):QW prog 233 [.agg x.cells,CC c,u64 low,u64 total] (QN (.agg (IK x c low total).cells)):=by
 have h1:=IF hc hl (y:=total*65536) ω;have h2:=pL hx hc hl ht;refine xT 0 func233 ntmps233 results233 λbase w hb=>?_;simp only[go_sem];apply QF hb [0,1,2,1003,1004,1005,1006];simp only[go_sem];apply Jb hb Ba (Bm total 65536 ht π);apply ZA hb;apply Jb hb mY (pA c hc low (total*65536) hl ω);apply ZA hb;cases h:x.has with
 | true=>
  rw[h,Qd rfl]at h2;rw[show IK x c low total=⟨true,Xq x.run (Ve c low (total*65536)),Ex (Xq x.run (Ve c low (total*65536))) total⟩ from by unfold IK;rw[h];rfl];simp only[go_sem];apply ZK hb cH (eA x.run _ hx.run h1);apply Qn hb;apply QF hb [0,1,2,1003,4,1005];simp only[go_sem];apply Jb hb m7 (pK (Xq x.run (Ve c low (total*65536))) h2 total ht);exact Iq hb
 | false=>
  rw[show IK x c low total=⟨true,Ve c low (total*65536),Ex (Ve c low (total*65536)) total⟩ from by unfold IK;rw[h];rfl];simp only[go_sem];apply QF hb [0,1,2,1003,4,1005];simp only[go_sem];apply Jb hb m7 (pK (Ve c low (total*65536)) h1 total ht);exact Iq hb
def Qt9(x:Sh)(hx:x.Ok)(total:Nat)(ht:total<18446744073709551616):QW prog 238 [.agg x.cells,u64 total] (QN (.agg (GA x total).cells)):=by
 cases h:x.has with
 | true=>
  rw[show GA x total=⟨true,x.run,Ex x.run total⟩ from by unfold GA;rw[h];rfl];refine xT 0 func238 ntmps238 results238 λbase w hb=>?_;simp only[go_sem];simp only[go_sem,h];apply ZK hb m7 (pK x.run hx.run total ht);exact qQ hb
 | false=>
  rw[show GA x total=x from by unfold GA;rw[h];rfl];refine xT 0 func238 ntmps238 results238 λbase w hb=>?_;simp only[go_sem];simp only[go_sem,h]
structure Cp where
 has:Bool
 run:Rn
 fit:Nat
deriving DecidableEq
instance:Inhabited Cp:=⟨⟨false,default,0⟩⟩
structure Cp.Ok (x:Cp):Prop where
 run:x.run.Ok
 fit:x.fit<=never
@[go_sem] def Cp.cells(x:Cp):List D:=[QT x.has,u64 x.run.f.x,u64 (x.run.f.y / 18446744073709551616),u64 (x.run.f.y % 18446744073709551616),u64 x.run.f.m,u64 x.run.t.x,u64 (x.run.t.y / 18446744073709551616),u64 (x.run.t.y % 18446744073709551616),u64 x.run.t.m,QT x.run.b,u64 x.fit]
def pM:Cp:=⟨false,⟨⟨0,0,0⟩,⟨0,0,0⟩,false⟩,0⟩
def z8(x:Cp)(total:Nat):Cp:=if x.has then ⟨true,x.run,XY x.run (total*65536)⟩ else x
def xN(x:Cp)(c:Nc)(now total:Nat):Cp:=
 if c.of=0\/c.of=1 then pM
 else ⟨true,if x.has then Xq x.run (Ve c now (total*65536)) else Ve c now (total*65536),XY (if x.has then Xq x.run (Ve c now (total*65536)) else Ve c now (total*65536)) (total*65536)⟩
def Qua:pM.Ok:=⟨⟨Ln.j6,Ln.j6⟩,Jh _⟩
def Qub{x:Cp}(hx:x.Ok)(total:Nat):(z8 x total).Ok:=by
 unfold z8;split
 .exact⟨hx.run,Sq _ _⟩
 .exact hx
def QfE{x:Cp}(hx:x.Ok){c:Nc}(hc:c.Lt){low total}(hl:low<18446744073709551616)(ht:total<18446744073709551616):(if x.has then Xq x.run (Ve c low (total*65536)) else Ve c low (total*65536)).Ok:=by
 have h1:=IF hc hl (y:=total*65536) ω;split
 .exact pB hx.run h1
 .exact h1
def Quc{x:Cp}(hx:x.Ok){c:Nc}(hc:c.Lt){now total:Nat}(hl:now<18446744073709551616)(ht:total<18446744073709551616):(xN x c now total).Ok:=by
 unfold xN;split
 .exact Qua
 .exact⟨QfE hx hc hl ht,Sq _ _⟩
def pN(x:Cp)(hx:x.Ok)(total:Nat)(ht:total<18446744073709551616):QW prog 239 [.agg x.cells,u64 total] (QN (.agg (z8 x total).cells)):=by
 cases h:x.has with
 | true=>
  rw[show z8 x total=⟨true,x.run,XY x.run (total*65536)⟩ from by unfold z8;rw[h];rfl];refine xT 0 func239 ntmps239 results239 λbase w hb=>?_;simp only[go_sem];simp only[go_sem,h];apply QF hb [0,1,2,1003,1004,5,1006];simp only[go_sem];apply Jb hb Ba (Bm total 65536 ht π);apply ZA hb;apply Jb hb cI (eC x.run hx.run (total*65536) ω);exact Iq hb
 | false=>
  rw[show z8 x total=x from by unfold z8;rw[h];rfl];refine xT 0 func239 ntmps239 results239 λbase w hb=>?_;simp only[go_sem];simp only[go_sem,h]
def Qud(x:Cp)(hx:x.Ok)(c:Nc)(hc:c.Lt)(now total:Nat)(hl:now<18446744073709551616)(ht:total<18446744073709551616):QW prog 234 [.agg x.cells,CC c,u64 now,u64 total] (QN (.agg (xN x c now total).cells)):=by
 have h1:=IF hc hl (y:=total*65536) ω;have h2:=QfE hx hc hl ht;refine xT 0 func234 ntmps234 results234 λbase w hb=>?_;simp only[go_sem];apply QF hb [0,1,2,1003,1004,1005,1006];simp only[go_sem];apply Jb hb Ba (Bm total 65536 ht π);apply ZA hb;apply Jb hb mY (pA c hc now (total*65536) hl ω);apply ZA hb;apply ZK hb DT (Sn c.a c.d c.b);apply Qn hb;by_cases e:c.of=0\/c.of=1
 .rw[show xN x c now total=pM from Qd e];have e':Vp c.a c.d c.b=0\/Vp c.a c.d c.b=1:=e;rcases e' with e'|e'
  .simp only[go_sem,e'];rfl
  .simp only[go_sem,e'];rfl
 .have d0:(Vp c.a c.d c.b==0)=false:=by rw[zL];exact λh=>e (.inl h)
  have d1:(Vp c.a c.d c.b==1)=false:=by rw[zL];exact λh=>e (.inr h)
  cases h:x.has with
  | true=>
   rw[h,Qd rfl]at h2;rw[show xN x c now total=z8 ⟨true,Xq x.run (Ve c now (total*65536)),0⟩ total from by unfold xN;rw[Qc e,h];rfl];simp only[go_sem,d0,d1];apply ZK hb cH (eA x.run _ hx.run h1);apply Qn hb;apply ZK hb mU (pN ⟨true,Xq x.run (Ve c now (total*65536)),0⟩ ⟨h2,Jh _⟩ total ht);exact qQ hb
  | false=>
   rw[show xN x c now total=z8 ⟨true,Ve c now (total*65536),0⟩ total from by unfold xN;rw[Qc e,h];rfl];simp only[go_sem,d0,d1];apply ZK hb mU (pN ⟨true,Ve c now (total*65536),0⟩ ⟨h1,Jh _⟩ total ht);exact qQ hb
def QfF(a b):QW prog 195 [u64 a,u64 b] (QN (u64 (max a b))):=by
 refine xT 0 func195 ntmps195 results195 λbase w hb=>?_;simp only[go_sem];simp only[go_sem,Qsr]
def pO:Go.Shelf.Ren:=⟨fun|5=>194|7=>248|n=>n,fun|23=>134|25=>3|3=>49|4=>4|20=>20|n=>n,fun|n=>n⟩
def Que:SlLaysW.n5 prog pO:={
 mixed:=τ
 f5:=⟨f194.name,τ,func194.trans (congrArg some (show f194={ SlBodyW.n5 pO with name:=f194.name } from τ))⟩
 f7:=func248.trans (congrArg some (show f248=SlBodyW.n7 pO from τ))
 t4:=underlying4
 a4:=isAgg4
 z4:=sizeOf4
 v4:=zeroValue4
 t20:=underlying20
 a20:=isAgg20
 z20:=sizeOf20
 v20:=zeroValue20
 t23:=underlying134
 a23:=isAgg134
 z23:=sizeOf134
 v23:=zeroValue134 }
def Quf{h:List Ob}{m c}{es}(hm:h[m]? = some (QK .i64 c es)):QH prog 194 h [.mref m 0] (λd h'=>d=.mref h.length 0/\h'=h++[QK .i64 c es]):=by
 intro Z base w pl vs Q1 hZ R kR hv;match vs,kR with
 | [v],_=>
 obtain⟨o,p,b,h1,h2,h3,h4,h5⟩:=Ft (hv 0 σ);rw[hm]at h1;cases h1;have hp:=h5 rfl;subst hp;have Fy:v=.map (some b):=h3.2;subst Fy;obtain⟨_,xn⟩:=R.at_ m _ b 0 hm h2;obtain⟨pP,Ju,Sv,clock,hb,hn,Kc,Z7,NT,IL⟩:=xn.map rfl;refine(AnyW.maps_Clone Que b Sv clock w hb).mono ?_;rintro e w' ⟨rfl,rfl⟩;have e:∀b,b<w.heap.size->(w.alloc (.map Sv clock)).heap[b]? = w.heap[b]? := λb hb=>vP w _ b hb;have T:Go.Fg.Tr h pl w (h++[QK .i64 c es]) (pl++[some (w.heap.size,0)]) (w.alloc (.map Sv clock)):=Go.Fg.Tr.push R e _ _ (by intro b q h;simp at h;omega);have Zh:pl.length=h.length:=R.len;refine⟨.map (some w.heap.size),.mref h.length 0,h++[QK .i64 c es],pl++[some (w.heap.size,0)],rfl,⟨rfl,rfl⟩,Zi.PD R e _ (QB _) Q1 ?_,?_,T,Dt Q1 _⟩
 .have hx:Uz Z (h++[QK .i64 c es]) (pl++[some (w.heap.size,0)]) (w.alloc (.map Sv clock)) (QK .i64 c es) w.heap.size 0:=
   ⟨rfl,Ju,Sv,clock,heap_alloc_new w _,hn,Kc,Z7.tr T,λi e he=>⟨(NT i e he).1,(NT i e he).2.1.tr T,(NT i e he).2.2.1.tr T,(NT i e he).2.2.2.tr T⟩,IL⟩
  exact hx
 .exact .mref _ _ (QK .i64 c es) (some (w.heap.size,0)) w.heap.size σ (by rw[<- Zh];simp) ⟨by simp[QK,VT,Kd.ty],rfl⟩ (QB _) (λ_=>rfl)
def QfG{S}{h:List Ob}{t}{T}(R:VM S h t T):QH prog 152 h [.ptr t 0 0 0] (λd h'=>d=.ptr (h.length+1) 0 0 0/\VM (λl=>h.length<=l) h' (h.length+1) T/\∃g,h'=h++g/\g.length=2):=by
 obtain⟨m,c,es,ht,hm,hT,_,_⟩:=R;refine QQ func152 ntmps152 results152 λbase w pl hb=>?_;have ZY:=Qb ht;simp only[go_sem,ht];refine Zw hb Qqv (Quf hm) λd h hR=>?_;obtain⟨rfl,rfl⟩:=hR;apply JH hb;exact⟨⟨h.length,c,es,VD rfl,KV rfl,hT,by show h.length<=_;omega,QB _⟩,_,rfl,rfl⟩
def Qug{T:List Qq}(h:WU T){x:Qq}(hn:Qx T x.iD=none):(VK T x).length=T.length+1:=by
 rw[(Gf x h).length_eq,Kv];congr 1;unfold WV;rw[yi.2];intro c hc;have:=yL.1 hn c hc;simpa using this
def Quh{T:List Qq}(h:WU T){x y:Qq}(hy:Qx T x.iD=some y):(VK T x).length<=T.length:=by
 rw[(Gf x h).length_eq,Kv];obtain⟨h1,h2⟩:=(J6 h).1 hy;have:(WV T x.iD).length<T.length:=by
  unfold WV;refine Nat.lt_of_le_of_ne (Xx _ _) λe=>?_;have:=(List.length_filter_eq_length_iff.1 e) y h1;simp[h2]at this
 omega
section
variable {T:List Qq}(I:JG T)
include I
theorem JG.add{x:Qq}(h:jS T x (up T x.parent).length=0):JG (VK T x):=by
 unfold jS at h;by_cases h0:KN x=0;case neg=>rw[Qd h0]at h;exact absurd h h0
 rw[Qc (by simpa using h0)]at h;cases h1:Qx T x.iD with
 | some y=>rw[h1]at h;simp at h
 | none=>
  rw[h1,Qc σ]at h;by_cases h2:T.length=64
  .rw[Qd h2]at h;cases h
  rw[Qc h2]at h;by_cases h3:(x.parent≠0/\(Qx T x.parent).isNone)\/((Qx T x.parent).getD default).leaf=true
  .rw[Qd h3]at h;cases h
  rw[Qc h3]at h;by_cases h4:1<QR x.ls/\Xn T x.parent=false
  .rw[Qd h4]at h;cases h
  rw[Qc h4]at h;by_cases h5:(up T x.parent).length=16
  .rw[Qd h5]at h;cases h
  have Q8:=right_id h0;have hp:x.parent=0\/∃d,Qx T x.parent=some d/\d.leaf=false:=by
   by_cases hp:x.parent=0
   .exact .inl hp
   .cases hf:Qx T x.parent with
    | none=>exact absurd (.inl ⟨hp,by rw[hf];rfl⟩) h3
    | some d=>
     refine .inr ⟨d,rfl,?_⟩;rw[Xe];exact λhl=>h3 (.inr (by rw[hf];exact hl))
  have I2:=I.toTreeInv.add h0 h1 (hp.elim .inl λ⟨d,hd,_⟩=>.inr (by rw[hd];rfl)) h5;refine⟨I2,λc hc=>?_,λc hc YJ=>?_,λc hc hs YJ=>?_,?_⟩
  .rcases yO I.rising x hc with rfl|hc
   .exact h0
   .exact I.right c hc
  .rcases yO I.rising x hc with rfl|hc
   .rcases hp with hp|⟨d,hd,hl⟩
    .exact absurd hp YJ
    .exact⟨d,by rw[yM I.rising,Qc Q8.2.2];exact hd,hl⟩
   .obtain⟨d,hd,hl⟩:=I.J8 c hc YJ;refine⟨d,?_,hl⟩;rw[yM I.rising,Qc (λe=>by rw[e,h1]at hd;cases hd)];exact hd
  .rcases yO I.rising x hc with rfl|hc
   .have JX:Xn T c.parent=true:=by
     rw[<- Bool.not_eq_false];exact λhf=>h4 ⟨hs,hf⟩
    unfold Xn at JX;unfold k9;rw[yM I.rising,Qc Q8.2.2];rw[Df]at JX;rcases JX with JX|JX
    .exact absurd (by simpa using JX) YJ
    .exact JX
   .have JX:=I.RJ c hc hs YJ;obtain⟨d,hd,hl⟩:=I.J8 c hc YJ;unfold k9 at JX ⊢;rw[yM I.rising,Qc (λe=>by rw[e,h1]at hd;cases hd)];exact JX
  .rw[Qug I.rising h1];have:=I.len;omega
theorem JG.del{id}(h:WE T id=[]):JG (WV T id):=by
 have I2:=I.toTreeInv.del h;have ZP:∀c∈T,c.parent≠id:=λc hc e=>by
  have:c.iD∈WE T id:=Z2.2 ⟨c,Jt.2 ⟨hc,by simpa using e⟩,rfl⟩;rw[h]at this;cases this
 refine⟨I2,λc hc=>I.right c (Jt.1 hc).1,λc hc YJ=>?_,λc hc hs YJ=>?_,?_⟩
 .have hc:=(Jt.1 hc).1;obtain⟨d,hd,hl⟩:=I.J8 c hc YJ;exact⟨d,by rw[RI I.rising,Qc (ZP c hc)];exact hd,hl⟩
 .have hc:=(Jt.1 hc).1;have:=I.RJ c hc hs YJ;unfold k9 at this ⊢;rw[RI I.rising,Qc (ZP c hc)];exact this
 .have:=Xx (λc:Qq=>c.iD != id) T;have:=I.len;unfold WV;omega
theorem JG.set{x}(h:Bf T x=0):JG (VK T x):=by
 unfold Bf at h;by_cases h0:KN x=0;case neg=>rw[Qd h0]at h;exact absurd h h0
 rw[Qc (by simpa using h0)]at h;cases h1:Qx T x.iD with
 | none=>rw[h1,Qd (by rfl)]at h;cases h
 | some y=>
  rw[h1,Qc σ]at h;simp only[KR]at h;by_cases h2:x.parent≠y.parent\/x.leaf≠y.leaf
  .rw[Qd h2]at h;cases h
  rw[Qc h2]at h;have h2a:x.parent=y.parent:=kC λe=>h2 (.inl e);have h2b:x.leaf=y.leaf:=kC λe=>h2 (.inr e);by_cases h3:(1<QR x.ls/\Xn T x.parent=false)\/(¬ 1<QR x.ls/\(WE T x.iD).any (k9 T)=true)
  .rw[Qd h3]at h;cases h
  have Q8:=right_id h0;have hym:=(J6 I.rising).1 h1;have I2:=I.toTreeInv.set h0 h1 h2a;have xC:∀p d,Qx T p=some d->∃d',Qx (VK T x) p=some d'/\d'.leaf=d.leaf:=λp d hd=>by
   rw[yM I.rising];by_cases hp:p=x.iD
   .rw[Qd hp];rw[hp,h1]at hd;cases hd;exact⟨x,rfl,h2b⟩
   .rw[Qc hp];exact⟨d,hd,rfl⟩
  refine⟨I2,λc hc=>?_,λc hc YJ=>?_,λc hc hs YJ=>?_,?_⟩
  .rcases yO I.rising x hc with rfl|hc
   .exact h0
   .exact I.right c hc
  .have:∃d,Qx T c.parent=some d/\d.leaf=false:=by
    rcases yO I.rising x hc with rfl|hc
    .rw[h2a]at YJ ⊢;exact I.J8 y hym.1 YJ
    .exact I.J8 c hc YJ
   obtain⟨d,hd,hl⟩:=this;obtain⟨d',h4,h5⟩:=xC _ d hd;exact⟨d',h4,by rw[h5,hl]⟩
  .unfold k9;rw[yM I.rising];by_cases hp:c.parent=x.iD
   .rw[Qd hp];simp only[KR,XL];refine kC λhx=>h3 (.inr ⟨hx,?_⟩);rcases yO I.rising x hc with rfl|hc
    .exact absurd hs hx
    .rw[BN];refine⟨c.iD,Z2.2 ⟨c,Jt.2 ⟨hc,by simpa using hp⟩,rfl⟩,?_⟩;unfold k9;rw[(J6 I.rising).2 ⟨hc,rfl⟩];simpa using hs
   .rw[Qc hp];rcases yO I.rising x hc with rfl|hc
    .have JX:Xn T c.parent=true:=by
      rw[<- Bool.not_eq_false];exact λhf=>h3 (.inl ⟨hs,hf⟩)
     unfold Xn at JX;rw[Df]at JX;rcases JX with JX|JX
     .exact absurd (by simpa using JX) YJ
     .exact JX
    .exact I.RJ c hc hs YJ
  .have:=Quh I.rising h1;have:=I.len;omega
end
def wG(T:List Qq)(c:JN):Int:=if c.kind=1 then jS T c.cls (up T c.cls.parent).length else if c.kind=3 then Bf T c.cls else if c.kind=2 then Be T c.cls.iD else 1
def Bq(T:List Qq)(c:JN):List Qq:=if wG T c=0 then (if c.kind=2 then WV T c.cls.iD else VK T c.cls) else T
def JG.one{T}(I:JG T)(c):JG (Bq T c):=by
 unfold Bq;by_cases h:wG T c=0
 .rw[Qd h];unfold wG at h;by_cases k1:c.kind=1
  .rw[Qd k1]at h;rw[Qc ω];exact I.add h
  .rw[Qc k1]at h;by_cases k3:c.kind=3
   .rw[Qd k3]at h;rw[Qc ω];exact I.set h
   .rw[Qc k3]at h;by_cases k2:c.kind=2
    .rw[Qd k2]at h ⊢;unfold Be at h;by_cases h1:(Qx T c.cls.iD).isNone=true
     .rw[Qd h1]at h;cases h
     .rw[Qc h1]at h;by_cases h2:WE T c.cls.iD≠[]
      .rw[Qd h2]at h;cases h
      .exact I.del (kC h2)
    .rw[Qc k2]at h;cases h
 .rw[Qc h];exact I
def WG.toS{S}{h h'}{t m}{L}(A:WG h t m L h')(st:S t)(sm:S m):VM S h' t L/\Step S h h':=by
 obtain⟨⟨c,es,h1,h2,h3⟩,hl,ho⟩:=A;exact⟨⟨m,c,es,h1,h2,h3,st,sm⟩,⟨λl h4 h5=>ho l h4 (λe=>h5 (e▸sm)),hl⟩⟩
section
variable {S:Nat->Prop}{h:List Ob}{t:Nat}{T:List Qq}(R:VM S h t T)(I:JG T)
include R I
theorem QfI(x:Qq):QH prog 62 h [.ptr t 0 0 0,Xm x] (λd h'=>d=Qa (jS T x (up T x.parent).length)/\VM S h' t (if jS T x (up T x.parent).length=0 then VK T x else T)/\Step S h h'):=by
 obtain⟨m,c,es,h1,h2,h3,h4,h5⟩:=R;have:=I.len;exact QH.mono (Qr1 h t m c h3 h1 h2 x 16 π (I.ends _)) λd h' ⟨e,A⟩=>⟨e,A.toS h4 h5⟩
theorem Quk(x):QH prog 223 h [.ptr t 0 0 0,Xm x] (λd h'=>d=Qa (Bf T x)/\VM S h' t (if Bf T x=0 then VK T x else T)/\Step S h h'):=by
 obtain⟨m,c,es,h1,h2,h3,h4,h5⟩:=R;have:=I.len;exact QH.mono (Qr6 h t m c h3 ω h1 h2 x) λd h' ⟨e,A⟩=>⟨e,A.toS h4 h5⟩
theorem Qul(id):QH prog 225 h [.ptr t 0 0 0,Qa id] (λd h'=>d=Qa (Be T id)/\VM S h' t (if Be T id=0 then WV T id else T)/\Step S h h'):=by
 obtain⟨m,c,es,h1,h2,h3,h4,h5⟩:=R;have:=I.len;exact QH.mono (Qr2 h t m c h3 ω h1 h2 id) λd h' ⟨e,A⟩=>⟨e,A.toS h4 h5⟩
end
def VM.app{S}{h:List Ob}{t}{T}(R:VM S h t T)(g):VM (λl=>S l/\l<h.length) (h++g) t T:=R.step λl hl hs=>⟨⟨hs,hl⟩,QG hl⟩
def Qum{S}{h:List Ob}{t tb}{T}(R:VM S h t T)(I:JG T)(x:Qq)(Zp:h[tb]? = some ⟨.one,0,1,1,λ_=>[.ptr t 0 0 0]⟩):QH prog 224 h [Xm x,.ptr tb 0 0 0] (λd h'=>d=Qa (Be T x.iD)/\VM S h' t (if Be T x.iD=0 then WV T x.iD else T)/\Step S h h'):=by
 refine QQ func224 ntmps224 results224 λbase w pl hb=>?_;have Nw:=Qb Zp;simp only[go_sem,Qe,Zp,Nw];refine Zw hb QqC (Qul (R.app _) I x.iD) λd h hR=>?_;obtain⟨rfl,R6,s6⟩:=hR;apply Qn hb;exact⟨R6.step λl _ hs=>⟨hs.1,rfl⟩,⟨λl h1 h2=>(s6.keep l ξ (λh3=>h2 h3.1)).trans (QG h1),by have:=s6.len;simp at this;omega⟩⟩
def Qun{S}{h}{t}{T}(R:VM S h t T)(I:JG T)(x:JN):QH prog 176 h [.ptr t 0 0 0,.agg x.cells] (λd h'=>d=Qa (wG T x)/\VM S h' t (Bq T x)/\Step S h h'):=by
 have fin:∀{g h6:List Ob} {T':List Qq},VM (λl=>S l/\l<h.length) h6 t T'->Step (λl=>S l/\l<h.length) (h++g) h6->VM S h6 t T'/\Step S h h6:=λ{g h6 T'} R6 s6=>
  ⟨R6.step λl _ hs=>⟨hs.1,rfl⟩,⟨λl h1 h2=>(s6.keep l ξ (λh3=>h2 h3.1)).trans (QG h1),by have:=s6.len;simp at this;omega⟩⟩
 unfold Bq wG;by_cases k1:x.kind=1
 .have d1:(x.kind==1)=true:=by simpa using k1
  simp only[Qd k1,Qc (show ¬ x.kind=2 from ω)];refine QQ func176 ntmps176 results176 λbase w pl hb=>?_;simp only[go_sem,Qe,d1];refine Zw hb Qc9 (QfI (R.app _) I x.cls) λd h hR=>?_;obtain⟨rfl,R6,s6⟩:=hR;apply Qn hb;exact fin R6 s6
 .have d1:(x.kind==1)=false:=by simpa using k1
  simp only[Qc k1];by_cases k3:x.kind=3
  .have d3:(x.kind==3)=true:=by simpa using k3
   simp only[Qd k3,Qc (show ¬ x.kind=2 from ω)];refine QQ func176 ntmps176 results176 λbase w pl hb=>?_;simp only[go_sem,Qe,d1,d3];refine Zw hb QqA (Quk (R.app _) I x.cls) λd h hR=>?_;obtain⟨rfl,R6,s6⟩:=hR;apply Qn hb;exact fin R6 s6
  .have d3:(x.kind==3)=false:=by simpa using k3
   simp only[Qc k3];by_cases k2:x.kind=2
   .have d2:(x.kind==2)=true:=by simpa using k2
    simp only[Qd k2];refine QQ func176 ntmps176 results176 λbase w pl hb=>?_;simp only[go_sem,Qe,d1,d2,d3];refine Zw hb QqB (Qum (tb:=h.length) (R.app _) I x.cls (KV rfl)) λd h hR=>?_;obtain⟨rfl,R6,s6⟩:=hR;apply Qn hb;exact fin R6 s6
   .have d2:(x.kind==2)=false:=by simpa using k2
    simp only[Qc k2];refine QQ func176 ntmps176 results176 λbase w pl hb=>?_;simp only[go_sem,Qe,d1,d2,d3];exact⟨R.step λl hl hs=>⟨hs,QG hl⟩,Step.app S h _⟩
end Go.Fg.X
namespace Go.Fg
open Go.RowKit (Below)
section
variable {P:Program}{L:Z8}{base nt:Nat}{s:St}{o:Oper}{t:TypeId}{x i:Operand}
def RZ(hL:Z5 P L){v}(ho:o.op=.insert t x i v){p}{h'}(h:FF L s.h t (Qo s.fr x) (Qo s.fr i) (Qo s.fr v)=some (p,h'))(hp:p):∀(Z:Nat->Prop) pl a w,Rel Z base nt s pl a w->base<=w.heap.size->∃v w' Qi,((execOp a.eval o).run P w=.ok (.value v) w'\/((execOp a.eval o).run P w=.ok .skip w'/\v=Go.undef))/\Tr s.h pl w h' Qi w'/\Zi Z base h' Qi w'/\QC Z h' Qi w' .undef v/\Below base w w'/\zM w w':=by
 have h1:=QaC (P:=P) (base:=base) (nt:=nt) (o:=⟨o.dst,.mapUpdate t x i v,o.type,o.pos,o.after,o.guard⟩) hL rfl h hp;intro Z pl a w r hb;obtain⟨u,w',Qi,h2,h3⟩:=h1 Z pl a w r hb;have e:execOp a.eval ⟨o.dst,.mapUpdate t x i v,o.type,o.pos,o.after,o.guard⟩=execOp a.eval o:=by simp[execOp,ho]
 rw[e]at h2;exact⟨u,w',Qi,h2,h3⟩
end
section
variable {P:Program}{base nt:Nat}{w0:Start}{Q:Exit->St->Prop}{k:List Item}{s:St}{X:Cx}
def Quo{L}(hL:Z5 P L)(Q1:base<=w0.w.heap.size){K}{ty:TypeId}{pos}{after}{gd}{r}{t:TypeId}{x i v}{p}{h'}
  (h:FF L s.h t (Qo s.fr x) (Qo s.fr i) (Qo s.fr v)=some (p,h')) (hp:p) (hk:AX P base nt w0 K r ⟨s.fr,h'⟩):AX P base nt w0 K ((false,⟨none,.insert t x i v,ty,pos,after,gd⟩,none)::r) s:=by
 simp only[AX,W6,qK];intro Z z pl a w rr b;obtain⟨u,w',Qi,Ze,hT,hO,hv,hb,hC⟩:=RZ (P:=P) (base:=base) (nt:=nt) (o:=⟨none,.insert t x i v,ty,pos,after,gd⟩) hL rfl h hp Z pl a w rr (Ki Q1 b.1.size);unfold Oper.wp;rcases Ze with Ze|⟨Ze,hu⟩
 .rw[Ze];simp only[Oper.upon_value];exact⟨hC,.undef,_,Qi,u,hk,rr.ym hT hO u,b.step hT hb,hT,rfl⟩
 .rw[Ze];simp only[Oper.upon_skip];exact⟨hC,.undef,_,Qi,_,hk,rr.ym hT hO _,b.step hT hb,hT,rfl⟩
def Qup{L:Z8}(hL:Z5 P L)(Q1:base<=w0.w.heap.size){K:St->Prop}{ty0:TypeId}{pos:String}{after:Array Edge}{gd:Option (Nat × Bool)}{r:List (Bool × Oper × G)}{t kt et a b a' b':Nat}{zt zt':List Value}{x i v:Operand}{q:IntKind}{l c:Nat}{es:List Zt}{n:Int}
  (ht:ty L t=some ⟨.map kt et,a,b,zt⟩) (kO:ty L kt=some ⟨.int q,a',b',zt'⟩) (hx:Qo s.fr x=.mref l 0) (hi:Qo s.fr i=.raw (.int q n)) (ho:s.h[l]? = some (QK q c es))
  (hk:AX P base nt w0 K r ⟨s.fr,s.h.set l (JZ q c es n (Qo s.fr v))⟩):AX P base nt w0 K ((false,⟨none,.insert t x i v,ty0,pos,after,gd⟩,none)::r) s:=by
 refine Quo hL Q1 (h':=s.h.set l (JZ q c es n (Qo s.fr v))) (p:=IsMap q (QK q c es)/\q=q/\0=0/\(QK q c es).kd.ro=false) ?_ ⟨?_,rfl,rfl,rfl⟩ hk
 .rw[hx,hi];simp only[FF,ht,kO,ho];rw[lI,lJ]
 .exact(Qav q c es).mpr trivial
def Ey(s1){id}{ops}(hX:qH P X)(hb:base<=w0.w.heap.size)(hm:P.follows .mixedOrders=true)(l)(R)(hB:B9 [] X.L ops l R=true)(hU:AY ops s.fr=true)
  (F8:∀s,Qz w0 s s1->Qv P base nt w0 Q k .normal s) (h:KU P base w0 X nt (DO P base w0 X nt (λs=>Qz w0 s s1) R.length (zT [] ops R) (l.map (·.1))) (K8 [] ops l) s):Qv P base nt w0 Q (.code (.region id ops true)::k) .normal s:=by
 have hR:R.Nodup:=by
  simp only[B9,Zy]at hB;exact(Qgw hB.1.2).1
 exact Qbw hX.L hb hm l R hB hU (AX.mono (λs hs=>mC hX hb (λs hs=>F8 s hs) _ _ _ s hR hs) _ _ (DM hX hb _ _ h))
end
section
variable {P:Program}{L:Z8}{base nt:Nat}{w0:Start}{Q:Exit->St->Prop}
end
end Go.Fg
namespace Go.Fg
section
variable {P:Program}{base nt:Nat}{w0:Start}{Q:Exit->St->Prop}{k:List Item}{s:St}
def eM(P:Program)(base nt:Nat)(w0:Start)(Q:Exit->St->Prop)(k:List Item)(T:St->Prop):Exit->St->Prop
 | .normal,s=>∃s1,T s1/\Qz w0 s s1
 | e,s=>Qv P base nt w0 Q k e s
variable {T:St->Prop}
@[go_sem] theorem QES:eM P base nt w0 Q k T .normal s=∃s1,T s1/\Qz w0 s s1:=KY rfl
@[go_sem] theorem QET{j}:eM P base nt w0 Q k T (.exit j) s=Qv P base nt w0 Q k (.exit j) s:=KY rfl
@[go_sem] theorem QEU:eM P base nt w0 Q k T .ret s=Qv P base nt w0 Q k .ret s:=KY rfl
def eN{x}{c}(T)(h1:Qv P base nt w0 (eM P base nt w0 Q (.code c::k) T) [x] .normal s)(h2:∀s1,T s1->Qv P base nt w0 Q (.code c::k) .normal s1):Qv P base nt w0 Q (x::.code c::k) .normal s:=by
 have key:∀s',(∃s1,T s1/\Qz w0 s' s1)->Qv P base nt w0 Q (.code c::k) .normal s':=λs' ⟨s1,ht,hw⟩=>DF hw (h2 s1 ht);cases x with
 | code x=>
  simp only[Qv]at h1;show A P base nt w0 x _ s;refine h1.mono λe s' he=>?_;cases e with
  | normal=>exact key _ he
  | _=>exact he
 | ops l=>
  simp only[Qv]at h1;show AG P base nt w0 l _ s;intro Z z pl a w r b;refine cR (λe a' w' ⟨s',Qi,hs,r',b'⟩=>⟨s',Qi,?_,r',b'⟩) _ _ _ (h1 Z z pl a w r b);cases e with
  | normal=>exact key _ hs
  | _=>exact hs
 | inBlock id=>simp only[Qv]at h1 ⊢;exact key _ h1
 | inScope=>simp only[Qv]at h1 ⊢;exact key _ h1
end
def QfL:List Item->Bool
 | .inBlock _::k=>QfL k
 | .inScope::k=>QfL k
 | .code _::_=>true
 | .ops _::_=>true
 | []=>false
def Br{P}{base nt}{w0}{Q}{s s'}(h:Qz w0 s s'):∀{k:List Item},QfL k=true->Qv P base nt w0 Q k .normal s'->Qv P base nt w0 Q k .normal s
 | [],hc,_=>by cases hc
 | .code c::k,_,hk=>DF h hk
 | .ops l::k,_,hk=>Rp h hk
 | .inBlock n::k,hc,hk=>by
  rw[QfL]at hc;simp only[Qv]at hk ⊢;exact Br h hc hk
 | .inScope::k,hc,hk=>by
  rw[QfL]at hc;simp only[Qv]at hk ⊢;exact Br h hc hk
end Go.Fg
namespace Go.Fg.X
open Go.Proofs Go.Fg
open Go.Proofs.Tryz
@[go_sem] def uI(n:Int):D:=.raw (.int .u64 n)
def Qt(x y:Int):Bool:=decide (x<y)
def Bs(d:Array Int):Nat->List D:=λi=>[uI d[i]!]
@[go_sem] theorem QEV(d:Array Int)(i):Bs d i=[uI d[i]!]:=rfl
@[go_sem] def Zd(g:Nat)(d:Array Int):Ob:=⟨.arr,g,1,d.size,Bs d⟩
structure QEW (h h':List Ob) (lo:Nat) (o:Ob):Prop where
 at_:h'[lo]? = some o
 J3:∀l,l<h.length->l≠lo->h'[l]? = h[l]?
 len:h.length<=h'.length
def Qur(x):QW prog 315 [uI x] (QN (QT false)):=by
 refine xT 0 func315 ntmps315 results315 λbase w hb=>?_;simp only[go_sem];simp only[go_sem,bne_self_eq_false]
def vp(x y):QW prog 295 [uI x,uI y] (QN (QT (Qt x y))):=by
 refine xT 0 func295 ntmps295 results295 λbase w hb=>?_;simp only[go_sem];apply ZK hb QdQ (Qur x);apply Qg hb;simp only[go_sem,Go.undef];unfold Qt;rfl
def vq{h:List Ob}{l}{o}(e:h[l]? = some o):h.set l o=h:=wY λi=>by
 by_cases c:l=i
 .subst c;rw[QE (Qb e),e]
 .rw[Qr c]
@[go_sem] def NU(n:Nat):Ob:=⟨.one,0,1,1,λ_=>[Qa n]⟩
section
variable {h:List Ob}{lo g:Nat}{d:Array Int}(ho:h[lo]? = some (Zd g d))
include ho
theorem pQ{sp}(s)(xO:h[sp]? = some (NU s))(QA:sp≠lo)(a b)(ha:a<d.size)(Zp:b<d.size)(hs:s<1000000):
  QH prog 336 h [.ref lo g 0 d.size,Qa a,Qa b,.ptr sp 0 0 0] (λdd h'=>dd=.tup [Qa (Sort.order2 Qt d a b s).1,Qa (Sort.order2 Qt d a b s).2.1]/\h'=h.set sp (NU (Sort.order2 Qt d a b s).2.2)):=by
 have Zb:=J9 (show s<4611686018427387904 from ω);unfold Sort.order2;refine QQ func336 ntmps336 results336 λbase w pl hb=>?_;have Ql:=Qb ho;have IM:=Qb xO;simp only[go_sem];apply QF hb uw;simp only[go_sem,ho,ha,Zp];apply Jb hb zU (vp d[b]! d[a]!);apply ZA hb;cases hl:Qt d[b]! d[a]!
 .simp only[go_sem];exact(vq xO).symm
 .simp only[go_sem,xO,Zb]
theorem QfJ(a b s:Nat)(ha:a<d.size)(hb:b<d.size):(Sort.order2 Qt d a b s).1<d.size/\(Sort.order2 Qt d a b s).2.1<d.size/\(Sort.order2 Qt d a b s).2.2<=s+1:=by
 have _hu:=ho;unfold Sort.order2;split<;>simp_all
theorem pR{sp}(s)(xO:h[sp]? = some (NU s))(QA:sp≠lo)(a b c)(ha:a<d.size)(Zp:b<d.size)(Ny:c<d.size)(hs:s<900000):
  QH prog 334 h [.ref lo g 0 d.size,Qa a,Qa b,Qa c,.ptr sp 0 0 0] (λdd h'=>dd=Qa (Sort.median Qt d a b c s).1/\h'=h.set sp (NU (Sort.median Qt d a b c s).2)):=by
 have q1:=QfJ ho a b s ha Zp;have q2:=QfJ ho (Sort.order2 Qt d a b s).2.1 c (Sort.order2 Qt d a b s).2.2 q1.2.1 Ny;have IM:=Qb xO;have g1:∀o,(h.set sp o)[lo]? = some (Zd g d):=λo=>(Qr QA).trans ho;have g2:∀o,(h.set sp o)[sp]? = some o:=λo=>QE IM;unfold Sort.median;refine QQ func334 ntmps334 results334 λbase w pl hb=>?_;have Ql:=Qb ho;have IM:=Qb xO;simp only[go_sem];refine Zw hb nu (pQ ho s xO QA a b ha Zp ω) λd h hR=>?_;obtain⟨rfl,rfl⟩:=hR;apply Qn hb;refine Zw hb nu (pQ (g1 _) _ (g2 _) QA _ c q1.2.1 Ny ω) λd h hR=>?_;obtain⟨rfl,rfl⟩:=hR;apply Qg hb;simp only[go_sem,JK];refine Zw hb nu (pQ (g1 _) _ (g2 _) QA _ _ q1.1 q2.1 ω) λd h hR=>?_;obtain⟨rfl,rfl⟩:=hR;apply Qg hb;simp only[go_sem,JK]
theorem pS{sp}(s)(xO:h[sp]? = some (NU s))(QA:sp≠lo)(a)(ha:1<=a)(Zp:a+1<d.size)(hs:s<900000)(hz:d.size<1000000000):
  QH prog 333 h [.ref lo g 0 d.size,Qa a,.ptr sp 0 0 0] (λdd h'=>dd=Qa (Sort.medianAdjacent Qt d a s).1/\h'=h.set sp (NU (Sort.medianAdjacent Qt d a s).2)):=by
 have e1:IntKind.i64.wrap ((a:Int) - 1)=((a - 1:Nat):Int):=Zu;have e2:IntKind.i64.wrap ((a:Int)+1)=((a+1:Nat):Int):=Zu;unfold Sort.medianAdjacent;refine QQ func333 ntmps333 results333 λbase w pl hb=>?_;have Ql:=Qb ho;have IM:=Qb xO;simp only[go_sem,e1,e2];refine Zw hb ns (pR ho s xO QA (a - 1) a (a+1) ω ω ω hs) λd h hR=>?_;obtain⟨rfl,rfl⟩:=hR;exact qQ hb
end
end Go.Fg.X
