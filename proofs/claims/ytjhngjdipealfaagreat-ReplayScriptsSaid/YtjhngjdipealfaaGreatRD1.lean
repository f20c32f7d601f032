/- Contracts and laws on the way to the statement. No conditions. -/
import Derived.Test.YtjhngjdipealfaaGreatTB5
import Derived.Test.YtjhngjdipealfaaGreatFgHx
import Derived.Test.YtjhngjdipealfaaGreatSC7
import Derived.Test.YtjhngjdipealfaaGreatFgFork
set_option maxRecDepth 100000
set_option maxHeartbeats 16000000
set_option linter.unusedVariables false
set_option linter.unusedSimpArgs false
set_option linter.unusedSectionVars false
set_option linter.defProp false
namespace Go.Fg.X
open Go.Proofs Go.Fg
open Go.Proofs.Tryz
structure Mz7 where
 results:(List WD)
 events:(List Ev)
instance:Inhabited Mz7:=⟨⟨[],[]⟩⟩
@[go_sem] def Mz7.cells(x:Mz7):List D:=[.imm 3 x.results.length (WD.rows x.results),.imm 12 x.events.length (Ev.rows x.events)]
def Mz7.rows(l:List Mz7):Nat->List D:=λi=>(l.getD i default).cells
@[go_sem] theorem Mz7.xO(l:List Mz7)(i):Mz7.rows l i=(l.getD i default).cells:=rfl
def QF7(F:List Ob)(f nf:Nat)(Qz:List D)(g:Ev->Bool):Prop:=∀(h:List Ob) (n:Ev),KZ F h->Zg prog f h (Jj nf Qz [.agg n.cells]) (λd=>d=QY (g n))
def Qaj(g:Ev->Bool)(l:List Ev):Int:=match l.findIdx? g with
 | some i=>i
 | none=>-1
def QF8{g}{l:List Ev}{k}(hk:k<l.length)(h:∀i,i<k->g (l.getD i default)=false)(hg:g (l.getD k default)=true):Qaj g l=k:=by
 have e:l.findIdx? g=some k:=by
  rw[Ec];refine⟨hk,by simpa[Q8,hk] using hg,λi hi=>?_⟩;have:=h i hi;simpa[Q8,show i<l.length by omega] using this
 rw[Qaj,e]
def QF9{g}{l:List Ev}(h:∀i,i<l.length->g (l.getD i default)=false):Qaj g l=-1:=by
 have e:l.findIdx? g=none:=by
  rw[Ge];intro x hx;obtain⟨i,hi,rfl⟩:=yE hx;have:=h i hi;simpa[Q8,hi] using this
 rw[Qaj,e]
section
variable (h:List Ob)(l:List Ev)(lo gn off:Nat)(row:Nat->List D)(hlen:l.length<100000000)(ho:(h.map Ob.ro)[lo]? = some ⟨.xm,gn,12,off+l.length,row⟩)(hr:∀i,i<l.length->row (off+i)=(l.getD i default).cells)
include hlen ho hr
theorem QGa(so:D)(f nf:Nat)(Qz:List D)(hf:Qq prog f)(Vd:J4 so=some (f,nf,Qz))(gk:Ev->Bool)(hg:QF7 (h.map Ob.ro) f nf Qz gk):
  Zg prog 103 h [.ref lo gn off l.length,so] (λd=>d=Qb (Qaj gk l)):=by
 refine Zt Qh 200 func103 rfl ntmps103 results103 rfl λbase w pl F hF Za hb=>?_;rw[<- hF]at ho;have Qe:=Qc ho;simp only[go_sem,Qa,ho,Qe];refine ZZ (λk s=>(∀i,i<k->gk (l.getD i default)=false)/\s=⟨[(0,.ref lo gn off l.length),(1,so),(7,Qb l.length),(8,Qb k)],F⟩) l.length QO ⟨λi hi=>absurd hi (by omega),rfl⟩ ?_;rintro k s hk ⟨hn,rfl⟩;apply Q1 hb;have Qe:=Qc ho;have Zq:=Vp (show k<4611686018427387904 by omega);first|refine Ad hk (λQs=>?_) (λQs=>?_)|refine Ae hk (λQs=>?_) (λQs=>?_)
 ·have vn:=hr k Qs;have qH:off+k<off+l.length:=by omega
  simp only[go_sem,Qa,ho,Qe,Qs,vn,qH];refine ZT hb hf Vd ?_ (hg F (l.getD k default) (by rw[<- hF];exact KZ.refl F)) rfl λd2 hR=>?_
  ·simp only[go_sem];exact Bz _
  subst hR;refine Qf hb ?_;cases zn:gk (l.getD k default)
  ·simp only[go_sem,Qa];refine⟨Qs,_,QI.frame (by simp only[go_sem,Zq]),λi hi=>?_,rfl⟩;by_cases h1:i<k
   ·exact hn i h1
   ·have:i=k:=by omega
    subst this;exact zn
  ·rw[QF8 Qs hn zn];simp only[go_sem,Qa];exact⟨[],(Zd F).symm⟩
 ·have Qs:k=l.length:=by omega
  subst Qs;simp only[go_sem,Gj];rw[QF9 hn];apply Q1 hb;exact⟨[],(Zd F).symm⟩
end
def QGb(h)(so):Zg prog 103 h [.nil,so] (λd=>d=Qb (-1)):=by
 refine Zt Qh 200 func103 rfl ntmps103 results103 rfl λbase w pl F hF Za hb=>?_;simp only[go_sem,Qa];refine ZZ (λk s=>s=⟨[(7,Qb 0),(8,Qb 0)],F⟩) 0 QO rfl ?_;rintro k s hk rfl;apply Q1 hb;apply Q1 hb;exact⟨[],(Zd F).symm⟩
def Qev(F:List Ob)(lo:Nat)(f nf:Nat)(Qz:List D)(g:Ev->Bool):Prop:=∀(h:List Ob) (n:Ev),F.length<=h.length->(∀l,l<F.length->l≠lo->h[l]? = F[l]?)->Zg prog f h (Jj nf Qz [.agg n.cells]) (λd=>d=QY (g n))
def Qae(g:Ev->Bool)(l:List Ev):List Ev:=l.filter λx=>!g x
def QGc{g}{l:List Ev}:(Qaj g l=-1/\Qae g l=l)\/∃i,i<l.length/\Qaj g l=(i:Int)/\g (l.getD i default)=true/\(l.take (i+1)).filter (λx=>!g x)=l.take i:=by
 unfold Qaj;cases h:l.findIdx? g with
 | none=>
  refine .inl ⟨rfl,xi.2 λx hx=>?_⟩;simp[Ge.1 h x hx]
 | some i=>
  obtain⟨h1,h2,h3⟩:=Ec.1 h;refine .inr ⟨i,h1,rfl,by simpa[Q8,h1] using h2,?_⟩;rw[QgK l _ i h1,Qd (by simpa[Q8,h1] using h2)];refine xi.2 λx hx=>?_;obtain⟨j,hj,rfl⟩:=yE hx;simp at hj;simpa using h3 j (by omega)
def QmO{fr fr'}{H}(e:fr=fr'):(⟨fr,H⟩:St)=⟨fr',H⟩:=by rw[e]
section
variable (h:List Ob)(l:List Ev)(lo gn off:Nat)(row:Nat->List D)(hlen:l.length<100000000)(ho:h[lo]? = some ⟨.arr,gn,12,off+l.length,row⟩)(hr:∀i,i<l.length->row (off+i)=(l.getD i default).cells)
include hlen ho hr
theorem QGd(so:D)(f nf:Nat)(Qz:List D)(hf:Qq prog f)(Vd:J4 so=some (f,nf,Qz))(gk:Ev->Bool)(hg:Qev h lo f nf Qz gk)(nR:Qev (h.map Ob.ro) lo f nf Qz gk):
  Go.Fg.QL prog 100 h [.ref lo gn off l.length,so] (λd h'=>d=.ref lo gn off (Qae gk l).length/\∃Kx,h'[lo]? = some ⟨.arr,gn,12,off+l.length,Kx⟩/\(∀i,i<(Qae gk l).length->Kx (off+i)=((Qae gk l).getD i default).cells)):=by
 refine QU Qh 200 func100 rfl ntmps100 results100 rfl λbase w pl hb=>?_;have Qe:=Qc ho;simp only[go_sem,Qa,ho,Qe];refine ZT hb Qhm rfl ?_ (QGa h l lo gn off row hlen (ZM ho) hr so f nf Qz hf Vd gk (λh' n hx=>?_)) rfl λd2 hR=>?_
 ·simp only[go_sem];exact G9 so
 ·obtain⟨g,rfl⟩:=hx;exact nR _ n (by simp) λl hl _=>QC hl
 subst hR;rcases QGc (g:=gk) (l:=l) with ⟨h1,h2⟩|⟨i,hi,h1,h2,h3⟩
 ·rw[h1,h2];refine Qf hb ?_;simp only[go_sem,Qa,ho,Qe];exact⟨row,rfl,hr⟩
 ·rw[h1];have QB:(((i:Nat):Int)==-1)=false:=by simp
  have Zq:=Vp (show i<4611686018427387904 by omega);refine Qf hb ?_;simp only[go_sem,Qa,ho,Qe,QB,Zq];refine ZZ (λk s=>∃(H:List Ob) (r2:Nat->List D),H[lo]? = some ⟨.arr,gn,12,off+l.length,r2⟩/\(∀x,x<h.length->x≠lo->H[x]? = h[x]?)/\h.length<=H.length/\(∀x,x<l.length->(r2 (off+x)).length=12)/\(∀j,j<((l.take (i+1+k)).filter λx=>!gk x).length->r2 (off+j)=(((l.take (i+1+k)).filter λx=>!gk x).getD j default).cells)/\(∀j,i+1+k<=j->j<l.length->r2 (off+j)=(l.getD j default).cells) /\
   s=⟨[(0,.ref lo gn off l.length),(1,so),(5,Qb ((l.take (i+1+k)).filter λx=>!gk x).length),(6,Qb (i+1+k:Nat))],H⟩) (l.length - (i+1))
   (s0:=⟨[(0,.ref lo gn off l.length),(1,so),(5,Qb i),(6,Qb (i+1:Nat))],h⟩) QO ⟨h,row,ho,λ_ _ _=>rfl,QD _,λx hx=>by rw[hr x hx];rfl,?_,λj _ hj=>hr j hj,?_⟩ ?_
  ·rw[Gh,h3];intro j hj;simp at hj;rw[hr j (by omega)];simp[Q8,hj,show j<l.length by omega]
  ·rw[Gh,h3];simp[QfF (Nat.le_of_lt hi)]
  rintro k s hk ⟨H,r2,X2,Qyk,hle,Vm,Jr,wN,rfl⟩;have Rf:=QwS l (λx=>!gk x) (i+1+k);obtain⟨M,hM⟩:∃M,M=(l.take (i+1+k)).filter λx=>!gk x:=⟨_,rfl⟩;obtain⟨j,hj⟩:∃j,j=i+1+k:=⟨_,rfl⟩;have Zu:=Qc X2;rw[<- hj]at hM Jr wN Rf ⊢;rw[<- hM]at Jr Rf ⊢;have BZ:j<=l.length:=by omega
  have Zq:=Vp (show j<4611686018427387904 by omega);have Qyj:=Vp (show M.length<4611686018427387904 by omega);refine Qf hb ?_;simp only[go_sem,Qa,X2,Zu];first|refine Ad BZ (λQs=>?_) (λQs=>?_)|refine Ae BZ (λQs=>?_) (λQs=>?_)
  ·have Ra:=wN j (QD _) Qs;have J3:off+j<off+l.length:=by omega
   simp only[go_sem,Qa,Qs,X2,Zu,Ra,J3];refine ZT hb hf Vd ?_ (hg _ (l.getD j default) (by simp;omega) (λx h1 h2=>by rw[QC (jO h1 hle)];exact Qyk x h1 h2)) rfl λd2 hR=>?_
   ·simp only[go_sem,Qa];exact Bz _
   subst hR;have Jg:=QgK l (λx=>!gk x) j Qs;rw[<- hM]at Jg;have ej:i+1+(k+1)=j+1:=by omega
   cases zn:gk (l.getD j default)
   ·rw[Qg (by simp only[zn,Gb])]at Jg;have ZB:M.length<l.length:=by omega
    have YK:off+M.length<off+l.length:=by omega
    have Qyl:List.drop 12 (r2 (off+M.length))=[]:=Sg (by rw[Vm _ ZB];exact QD _);refine Qf hb ?_;simp only[go_sem,Qa,X2,Zu,Zq,Qyj,ZB,YK,Qyl,Vm M.length ZB];have BS:(M++[l.getD j default]).length=M.length+1:=by simp
    refine⟨by omega,_,QI.frame (fr':=[(0,.ref lo gn off l.length),(1,so),(5,Qb (M.length+1:Nat)),(6,Qb (j+1:Nat))]) (by simp only[go_sem]),_,λx=>bif x==off+M.length then (l.getD j default).cells else r2 x,?_,?_,?_,?_,?_,?_,QmO (by rw[ej,Jg,BS];rfl)⟩
    ·rw[QC (by simp;exact Zu),WE Zu];rfl
    ·intro x VK Wr;rw[QC (by simp;omega),JL (Q3 Wr)];exact Qyk x VK Wr
    ·simp;omega
    ·intro x hx;show (bif off+x==off+M.length then (l.getD j default).cells else r2 (off+x)).length=12;cases (off+x==off+M.length)
     ·exact Vm x hx
     ·rfl
    ·rw[ej,Jg];intro x hx;simp at hx;by_cases nv:x=M.length
     ·subst nv;simp only[ID,jQ];simp;rfl
     ·have e1:(off+x==off+M.length)=false:=by simp;omega
      have:=Jr x (by omega);simp only[e1,qB,this];rw[Q8,Q8,Jy (by omega)];rfl
    ·intro x VK Wr;have e1:(off+x==off+M.length)=false:=by simp;omega
     simp only[e1,qB];exact wN x (by omega) Wr
   ·rw[Qd (by simp only[zn,Ca];decide)]at Jg;refine Qf hb ?_;simp only[go_sem,Qa,X2,Zu,Zq];refine⟨by omega,_,QI.frame (fr':=[(0,.ref lo gn off l.length),(1,so),(5,Qb M.length),(6,Qb (j+1:Nat))]) (by simp only[go_sem]),_,r2,?_,?_,?_,Vm,?_,?_,QmO (by rw[ej,Jg];rfl)⟩
    ·rw[QC Zu];exact X2
    ·intro x VK Wr;rw[QC (by omega)];exact Qyk x VK Wr
    ·simp;omega
    ·rw[ej,Jg];exact Jr
    ·intro x VK Wr;exact wN x (by omega) Wr
  ·subst Qs;rw[zW]at hM;have qp:M=Qae gk l:=hM;rw[<- qp];have J3:M.length<=l.length:=by omega
   refine Qf hb ?_;simp only[go_sem,Qa,X2,Zu,J3];refine QFJ Aj hb rfl X2 rfl rfl rfl (by simp;omega) rfl rfl rfl (by decide) rfl rfl ?_;have hgS:∀r:Ob,(H.set lo r)[lo]? = some r:=λr=>Qv Zu;refine Qf hb ?_;simp only[go_sem,Qa,hgS,Zu,J3];refine⟨by simp,_,rfl,λx hx=>by rw[gT (by omega)];exact Jr x hx⟩
theorem QGe(so:D)(f nf:Nat)(Qz:List D)(hf:Qq prog f)(Vd:J4 so=some (f,nf,Qz))(gk:Ev->Bool)(hg:Qev h lo f nf Qz gk)(nR:Qev (h.map Ob.ro) lo f nf Qz gk):
  Go.Fg.QL prog 100 h [.ref lo gn off l.length,so] (λd h'=>d=.ref lo gn off (Qae gk l).length/\∃Kx,h'[lo]? = some ⟨.arr,gn,12,off+(Qae gk l).length,Kx⟩/\∀i,i<(Qae gk l).length->Kx (off+i)=((Qae gk l).getD i default).cells):=by
 refine Go.Fg.QL.cut (QGd h l lo gn off row hlen ho hr so f nf Qz hf Vd gk hg nR) ?_;rintro d h' ⟨rfl,Kx,h1,PX⟩;have:=Yo (λx=>!gk x) l;exact⟨lo,⟨.arr,gn,12,off+l.length,Kx⟩,off+(Qae gk l).length,h1,rfl,by simp only[Qae];omega,rfl,Kx,Qv (Qc h1),PX⟩
end
def QGf(h)(so):Zg prog 100 h [.nil,so] (λd=>d=.nil):=by
 refine Zt Qh 200 func100 rfl ntmps100 results100 rfl λbase w pl F hF Za hb=>?_;simp only[go_sem,Qa];refine ZT hb Qhm rfl ?_ (QGb F so) rfl λd2 hR=>?_
 ·simp only[go_sem];exact G9 so
 subst hR;apply Q1 hb;exact⟨[],(Zd F).symm⟩
def QGg(h:List Ob)(l:List Ev)(hl:l.length<100000000):Go.Fg.QL prog 101 h [OP l] (λd h'=>(l=[]/\d=.nil/\h'=h)\/(∃g row,d=.ref h.length g 0 l.length/\h'=h++[⟨.arr,g,12,l.length,row⟩]/\∀i,i<l.length->row i=(l.getD i default).cells)):=by
 refine QU Qh 200 func101 rfl ntmps101 results101 rfl λbase w pl hb=>?_;simp only[go_sem,Qa];refine QA0 Aj (by simp only[go_sem];rfl) rfl rfl λb Zo=>?_;cases b with
 | true=>
  have h0:=Zo rfl;simp only[go_sem,RQ]at h0;apply Q1 hb;exact .inl (NG.1 h0)
 | false=>
  apply Q1 hb;refine⟨by omega,.inr ⟨_,_,rfl,rfl,λi hi=>?_⟩⟩;rw[vV (JQ _)];rfl
def Sz7(l:List Ev)(op:Int):List Ev:=l.filter λe=>e.op==op
def QGh(l:List Ev)(op):Qae (λe=>e.op != op) l=Sz7 l op:=by
 unfold Qae Sz7;exact Si λe _=>by simp[bne]
def QmP(h:List Ob)(lb)(op)(e:Ev)(hl:(h.map Ob.ro)[lb]? = some ⟨.Wd,0,1,1,λ_=>[Qb op]⟩):Zg prog 102 h [.agg e.cells,.ptr lb 0 0 0] (λd=>d=QY (e.op != op)):=by
 refine Zt Qh 200 func102 rfl ntmps102 results102 rfl λbase w pl F hF Za hb=>?_;rw[<- hF]at hl;have Fi:=Qc hl;simp only[go_sem,Qa,hl,Fi];exact⟨_,rfl⟩
def QmQ(l:List Ev)(op)(hlen:l.length<100000000):Zh prog 59 [OP l,Qb op] (Qo (OP (Sz7 l op))):=by
 refine Qww (R:=λd hh=>(Sz7 l op=[]/\d=.nil)\/∃lo g row,hh[lo]? = some ⟨.arr,g,12,(Sz7 l op).length,row⟩/\d=.ref lo g 0 (Sz7 l op).length/\∀i,i<(Sz7 l op).length->row i=((Sz7 l op).getD i default).cells) _ rfl ?_ ?_
 ·rintro d hh (⟨h1,rfl⟩|⟨lo,g,row,h1,rfl,h2⟩)
  ·rw[h1];exact .inl rfl
  ·refine .inr ⟨lo,g,12,_,row,h1,λi hi=>by rw[h2 i hi];rfl,?_⟩;have e1:D.fz lo g (Sz7 l op).length 12 row (.ref lo g 0 (Sz7 l op).length)=.imm 12 (Sz7 l op).length (rowFrom 0 row):=by simp[D.fz,GU]
   rw[e1];simp only[OP];rw[Up];refine⟨rfl,rfl,λi hi=>?_⟩;rw[G0,JG,h2 i hi];exact Af (xN _) _
 refine QU Qh 200 func59 rfl ntmps59 results59 rfl λbase w pl hb=>?_;simp only[go_sem,Qa];refine BD hb QyD (QGg _ l hlen) λd h hR=>?_;obtain (⟨rfl,rfl,rfl⟩|⟨g,row,rfl,rfl,hr⟩):=hR;apply Q1 hb
 ·refine ZT hb Qhk rfl ?_ (QGf _ (.clo 102 0 [.ptr 0 0 0 0])) rfl λd2 hR=>?_
  ·simp only[go_sem,Qa]
  subst hR;apply Q1 hb;exact .inl rfl
 ·refine Qf hb ?_;simp only[go_sem,Qa,zV,XW,YT];have hx:∀(F:List Ob) (h':List Ob),(F.map Ob.ro)[0]? = some ⟨.Wd,0,1,1,λ_=>[Qb op]⟩->F.length=2->(∀l,l<F.length->l≠1->h'[l]? = F[l]?)->(h'.map Ob.ro)[0]? = some ⟨.Wd,0,1,1,λ_=>[Qb op]⟩:=λF h' h1 h2 h3=>by
   rw[Ky]at h1 ⊢;rw[h3 0 (by omega) (by omega)];exact h1
  obtain⟨F,hF⟩:∃F:List Ob,F=[⟨.one,0,1,1,λ_=>[Qb op]⟩,⟨.arr,g,12,l.length,row⟩]:=⟨_,rfl⟩;have ho:F[1]? = some ⟨.arr,g,12,0+l.length,row⟩:=by rw[hF,JG];rfl
  have hT:Qev F 1 102 0 [.ptr 0 0 0 0] (λe=>e.op != op):=λh' e h1 h2=>QmP h' 0 op e (hx F h' (by rw[hF];rfl) (by rw[hF];rfl) h2);have BX:Qev (F.map Ob.ro) 1 102 0 [.ptr 0 0 0 0] (λe=>e.op != op):=λh' e h1 h2=>QmP h' 0 op e (hx (F.map Ob.ro) h' (by rw[hF];rfl) (by rw[hF];rfl) h2);have hd:=QGe F l 1 g 0 row hlen ho (λi hi=>by rw[JG];exact hr i hi) (.clo 102 0 [.ptr 0 0 0 0]) 102 0 [.ptr 0 0 0 0] QyX rfl _ hT BX;rw[QGh]at hd;simp only[go_sem]at hF;rw[<- hF];refine Jl hb Qhk hd λd h hR=>?_;obtain⟨rfl,Kx,h1,h2⟩:=hR;apply ZC hb;rw[JG]at h1;exact .inr ⟨1,_,Kx,h1,rfl,λi hi=>by have:=h2 i hi;rw[JG]at this;exact this⟩
def Ev.eqb(x y:Ev):Bool:=x.op==y.op&&(x.X9==y.X9&&(x.real==y.real&&(x.at_==y.at_&&(x.done==y.done&&(x.cls==y.cls&&(x.id==y.id&&(x.len==y.len&&(x.h0==y.h0&&(x.h1==y.h1&&(x.h2==y.h2&&x.h3==y.h3))))))))))
def Ev.Qal{x y:Ev}:x.eqb y=true↔x=y:=by
 cases x;cases y;simp[Ev.eqb]
def Ev.QmR(x:Ev):x.eqb x=true:=Ev.Qal.2 rfl
def Ev.Qf4{x y:Ev}(h:x≠y):x.eqb y=false:=by
 cases e:x.eqb y with
 | false=>rfl
 | true=>exact absurd (Ev.Qal.1 e) h
instance:DecidableEq Ev:=λx y=>decidable_of_iff _ Ev.Qal
def WD.eqb(x y:WD):Bool:=x.err==y.err&&(x.place==y.place&&x.cls==y.cls)
def WD.Qal{x y:WD}:x.eqb y=true↔x=y:=by
 cases x;cases y;simp[WD.eqb]
def WD.QmR(x:WD):x.eqb x=true:=WD.Qal.2 rfl
def WD.Qf4{x y:WD}(h:x≠y):x.eqb y=false:=by
 cases e:x.eqb y with
 | false=>rfl
 | true=>exact absurd (WD.Qal.1 e) h
instance:DecidableEq WD:=λx y=>decidable_of_iff _ WD.Qal
def QGi{α:Type}[Inhabited α]{a b:List α}(hl:a.length=b.length)(h:∀i,i<a.length->a.getD i default=b.getD i default):a=b:=by
 apply Qfn hl;intro i h1 h2;have:=h i h1;simpa[Q8,h1,h2] using this
def QGj(a b:List Ev)(ha:a.length<100000000)(Zo:b.length<100000000):Zh prog 58 [OP a,OP b] (Qo (QY (decide (a=b)))):=by
 by_cases hl:a.length=b.length
 ·have JA:(((a.length:Nat):Int) != ((b.length:Nat):Int))=false:=by rw[hl];simp
  refine Zy 0 Qh 200 func58 rfl ntmps58 results58 rfl λbase w hb=>?_;simp only[go_sem];simp only[JA,go_sem];refine ZZ (λi s=>(∀k,k<i->a.getD k default=b.getD k default)/\s=⟨[(0,OP a),(1,OP b),(12,Qb a.length),(13,Qb i)],[]⟩) a.length QO ⟨λk hk=>by omega,rfl⟩ ?_;rintro i s hi ⟨Jw,rfl⟩;have Zq:=Vp (show i<4611686018427387904 by omega);apply ZC hb;first|refine Ad hi (λQs=>?_) (λQs=>?_)|refine Ae hi (λQs=>?_) (λQs=>?_)
  ·have Ys:i<b.length:=by omega
   simp only[go_sem,Qs];apply QH hb [0,1,2,3,4,5,6,7,8];simp only[go_sem,Qs,Ys];by_cases he:a.getD i default=b.getD i default
   ·have hq:=Ev.QmR (b.getD i default);simp only[Ev.eqb]at hq;simp only[go_sem,he,hq];refine⟨Qs,_,QI.frame (fr':=[(0,OP a),(1,OP b),(12,Qb a.length),(13,Qb (i+1:Nat))]) (by simp only[go_sem,Zq]),λk hk=>?_,rfl⟩;rcases Cb.1 hk with h3|rfl
    ·exact Jw k h3
    ·exact he
   ·have hq:=Ev.Qf4 he;simp only[Ev.eqb]at hq;have e:decide (a=b)=false:=QQ (by rintro rfl;exact he rfl);simp only[go_sem,hq,e]
  ·subst Qs;have e:decide (a=b)=true:=Q7 (QGi hl Jw);refine Qf hb ?_;simp only[go_sem,e]
 ·have JA:(((a.length:Nat):Int) != ((b.length:Nat):Int))=true:=by simp;omega
  have e:decide (a=b)=false:=QQ (by rintro rfl;exact hl rfl);rw[e];refine Zy 0 Qh 200 func58 rfl ntmps58 results58 rfl λbase w hb=>?_;simp only[go_sem];simp only[JA,go_sem]
structure Mz7.Small (o:Mz7):Prop where
 r:o.results.length<100000000
 e:o.events.length<100000000
def QeU(a b:Mz7)(i:Nat):Bool:=decide (a.results.length<=i) || (decide (b.results.length<=i) || (!decide (a.results.getD i default=b.results.getD i default) || !decide (Sz7 a.events i=Sz7 b.events i)))
def Qak(a b:Mz7):Option Nat:=(List.range (max a.results.length b.results.length)).find? (QeU a b)
def QmS(l:List Ev)(op:Int):(Sz7 l op).length<=l.length:=Yo _ _
def QGk(l:List Ev):∀i,i<l.length->(Ev.rows l i).all D.Y6=true:=λi _=>rfl
def QGl(l:List Ev)(hlen:l.length<100000000):Zh prog 57 [OP l,OP l] (Qo (QY true)):=by
 refine Zy 0 Qh 200 func57 rfl ntmps57 results57 rfl λbase w hb=>?_;simp only[go_sem];simp only[go_sem,QeM];refine ZZ (λi s=>s=⟨[(0,OP l),(1,OP l),(12,OP l),(13,Qb l.length),(14,Qb i)],[]⟩) l.length QO rfl ?_;rintro i s hi rfl;have Zq:=Vp (show i<4611686018427387904 by omega);apply ZC hb;first|refine Ad hi (λQs=>?_) (λQs=>?_)|refine Ae hi (λQs=>?_) (λQs=>?_)
 ·simp only[go_sem,Qs];apply QH hb [0,1,2,3,4,5];simp only[go_sem,Qs];refine⟨_,QI.to 0 ⟨?_,by simp only[go_sem],?_,?_⟩,rfl⟩
  ·simp only[go_sem,Zq]
  ·simp only[go_sem]
  ·simp only[go_sem]
 ·subst Qs;exact xY hb
def QGm(x:Mz7)(h:x.Small):Zh prog 28 [.agg x.cells,.agg x.cells] (Qo (QY true)):=by
 have hr:=h.r;have hc:=QGl x.events h.e;refine Zy 0 Qh 200 func28 rfl ntmps28 results28 rfl λbase w hb=>?_;simp only[go_sem];simp only[go_sem,QeM];refine ZZ (λi s=>s=⟨[(2,.ptr 0 0 0 0),(3,.ptr 1 0 0 0),(15,.imm 3 x.results.length (WD.rows x.results)),(16,Qb x.results.length),(17,Qb i)],[⟨.one,0,2,1,λ_=>x.cells⟩,⟨.one,0,2,1,λ_=>x.cells⟩]⟩) x.results.length QO rfl ?_;rintro i s hi rfl;have Zq:=Vp (show i<4611686018427387904 by omega);apply ZC hb;first|refine Ad hi (λQs=>?_) (λQs=>?_)|refine Ae hi (λQs=>?_) (λQs=>?_)
 ·simp only[go_sem,Qs];apply QH hb [0,1,2,3,4,5,6];simp only[go_sem,Qs];refine⟨_,QI.to 2 ⟨?_,by simp only[go_sem],?_,?_⟩,rfl⟩
  ·simp only[go_sem,Zq]
  ·simp only[go_sem]
  ·simp only[go_sem]
 ·subst Qs;apply ZC hb;refine Wj hb Qyu hc (Qo.flat rfl) λd h hR=>?_;obtain⟨rfl,rfl⟩:=hR;exact xY hb
def Tz7(l:List Ev)(n:Int):List Ev:=l.filter λe=>decide (e.op<n)
def Qaa(o:Mz7)(n:Int):Mz7:=⟨o.results.take n.toNat,Tz7 o.events n⟩
def QGn(l:List Ev)(n)(k)(h:k<l.length):Tz7 (l.take (k+1)) n=if decide ((l.getD k default).op<n) then Tz7 (l.take k) n++[l.getD k default] else Tz7 (l.take k) n:=QgK l (λe=>decide (e.op<n)) k h
def QGo(l:List Ev)(n:Int)(k):(Tz7 (l.take k) n).length<=k:=QwS l (λe=>decide (e.op<n)) k
def QmT(o:Mz7)(n:Int)(h:o.Small):Zh prog 29 [.agg o.cells,Qb n] (Qo (.agg (Qaa o n).cells)):=by
 have h1:=h.r;have h2:=h.e;obtain⟨m,hm⟩:∃m:Nat,m=min n.toNat o.results.length:=⟨_,rfl⟩;have em:min (max n 0) (o.results.length:Int)=(m:Int):=by omega
 have el:(Qaa o n).results.length=m:=by simp[Qaa,hm]
 refine QCb (R:=λd hh=>∃g g' x y z row,d=.agg [.ref 3 g 0 m,.ref 4 g' 0 (Qaa o n).events.length]/\hh=[x,y,z,⟨.arr,g,3,m,row⟩,⟨.arr,g',12,(Qaa o n).events.length,Ev.rows (Qaa o n).events⟩]/\∀i,i<m->row i=(o.results.getD i default).cells) _ rfl ?_ ?_
 ·rintro d hh ⟨g,g',x,y,z,row,rfl,rfl,hr⟩;refine⟨3,g,3,_,_,4,g',12,_,_,rfl,rfl,by decide,λi hi=>by rw[hr i hi];rfl,QGk _,?_⟩;have hq:∀i,i<m->qb (Jv 4) (row i) ((Qaa o n).results.getD i default).cells:=λi hi=>by
   have:(Qaa o n).results.getD i default=o.results.getD i default:=by
    simp only[Qaa,Q8,W5];rw[Qg (by omega)]
   rw[hr i hi,this];exact Af (xN _) _
  simp only[Mz7.cells,el];generalize (Qaa o n).events=q at *;generalize (Qaa o n).results=u at *;simp[D.fz,zj,GU,show Nat.beq 4 3=false from rfl];simp only[QmB,QmE,QmD,Up,G0,JG,Qmp,implies_true,and_self,Qah,xl];exact hq
 refine QU Qh 200 func29 rfl ntmps29 results29 rfl λbase w pl hb=>?_;simp only[go_sem,Qa,em];refine Qux Aj hb rfl rfl rfl rfl (by decide) (by omega) (by decide) rfl ?_;apply ZC hb;refine QFA Aj hb rfl rfl rfl rfl rfl ?_ rfl rfl rfl trivial ?_ ?_ rfl ?_
 ·simp
 ·omega
 ·intro i hi;rfl
 apply ZC hb;refine EO (QI.Qf2 2 1 12 (Ev.rows []) rfl rfl rfl rfl) ?_;apply ZC hb;obtain⟨cr,SW⟩:∃cr:Nat->List D,cr=Go.Fg.T6 0 m (WD.rows o.results) λx=>[.raw (.int .i64 0),.raw (.int .i64 0),.raw (.int .i64 0)]:=⟨_,rfl⟩;have QmU:∀i,i<m->cr i=(o.results.getD i default).cells:=λi hi=>by
  rw[SW];have:(Nat.ble 0 i&&Nat.blt i (0+m))=true:=by simp;omega
  unfold Go.Fg.T6;rw[this];rfl
 have Fk:∀i,i<m->y0 5 (cr i)=true:=λi hi=>by rw[QmU i hi];rfl
 rw[<- SW];refine ZZ (λk s=>s=⟨[(1,Qb n),(4,.ptr 1 0 0 0),(5,.ptr 2 0 0 0),(23,OP o.events),(24,Qb o.events.length),(25,Qb k)],
  [⟨.one,0,2,1,λ_=>o.cells⟩,⟨.one,0,2,1,λ_=>[.nil,.nil]⟩,⟨.one,0,2,1,λ_=>[.ref 3 0 0 m,.ref 4 (Tz7 (o.events.take k) n).length 0 (Tz7 (o.events.take k) n).length]⟩,⟨.arr,0,3,m,cr⟩,⟨.arr,(Tz7 (o.events.take k) n).length,12,(Tz7 (o.events.take k) n).length,Ev.rows (Tz7 (o.events.take k) n)⟩]⟩) o.events.length (QI.to 5 (by simp only[go_sem,List.take_zero,Tz7,List.filter_nil,List.length_nil];exact Fk)) rfl ?_
 rintro k s hk rfl;have Zq:=Vp (show k<4611686018427387904 by omega);have ql:=QGo o.events n k;apply ZC hb;first|refine Ad hk (λQs=>?_) (λQs=>?_)|refine Ae hk (λQs=>?_) (λQs=>?_)
 ·have Jg:=QGn o.events n k Qs;generalize Tz7 (o.events.take k) n=L at *;generalize hee:o.events.getD k default=e at *;simp only[go_sem,Qs,hee];by_cases hc:e.op<n
  ·rw[Q7 hc,Qg rfl]at Jg;simp only[go_sem,Q7 hc];repeat (refine And.intro (by first|assumption|omega) ?_)
   refine⟨_,QI.to 5 ⟨?_,?_,?_,?_⟩,rfl⟩
   ·simp only[go_sem,Zq,Jg,ZX,zV]
   ·simp only[go_sem]
   ·simp only[go_sem];exact Fk
   ·simp only[go_sem,Jg,ZX,zV];intro i hi;rw[Qy5 _ _ _ _ hi];cases decide (i<L.length)<;>rfl
  ·rw[QQ hc,Qd (by decide)]at Jg;simp only[go_sem,QQ hc];repeat (refine And.intro (by first|assumption|omega) ?_)
   refine⟨_,QI.to 5 ⟨?_,?_,?_,?_⟩,rfl⟩
   ·simp only[go_sem,Zq,Jg]
   ·simp only[go_sem]
   ·simp only[go_sem];exact Fk
   ·simp only[go_sem,Jg]
 ·have qH:k=o.events.length:=by omega
  subst qH;rw[zW];have e2:(Qaa o n).events=Tz7 o.events n:=rfl;rw[e2];apply ZC hb;exact⟨_,_,_,_,_,_,rfl,rfl,QmU⟩
def QmV(a b:Mz7)(ha:a.Small)(Zo:b.Small):Zh prog 30 [.agg a.cells,.agg b.cells] (Qo (.tup [Qb ((Qak a b).getD 0),QY (Qak a b).isSome])):=by
 have a1:=ha.r;have a2:=ha.e;have b1:=Zo.r;have b2:=Zo.e;have em:min (a.results.length:Int) (b.results.length:Int)=((min a.results.length b.results.length:Nat):Int):=by omega
 have eM:max (a.results.length:Int) (b.results.length:Int)=((max a.results.length b.results.length:Nat):Int):=by omega
 obtain⟨M,hM⟩:∃M,M=max a.results.length b.results.length:=⟨_,rfl⟩;obtain⟨N,hN⟩:∃N,N=min a.results.length b.results.length:=⟨_,rfl⟩;rw[<- hM]at eM;rw[<- hN]at em;refine Zy 0 Qh 200 func30 rfl ntmps30 results30 rfl λbase w hb=>?_;simp only[go_sem];simp only[go_sem,em,eM];refine ZZ (λk s=>(∀j,j<k->QeU a b j=false)/\s=⟨[(2,.ptr 0 0 0 0),(3,.ptr 1 0 0 0),(6,Qb N),(21,Qb M),(22,Qb k)],[⟨.one,0,2,1,λ_=>a.cells⟩,⟨.one,0,2,1,λ_=>b.cells⟩]⟩) M QO ⟨λj hj=>by omega,rfl⟩ ?_;rintro k s hk ⟨Jw,rfl⟩;have Zq:=Vp (show k<4611686018427387904 by omega);apply ZC hb;first|refine Ad hk (λQs=>?_) (λQs=>?_)|refine Ae hk (λQs=>?_) (λQs=>?_)
 ·have Ld:QeU a b k=(decide (N<=k) || (!decide (a.results.getD k default=b.results.getD k default) || !decide (Sz7 a.events k=Sz7 b.events k))):=by
   have:(decide (a.results.length<=k) || decide (b.results.length<=k))=decide (N<=k):=by rw[kG];simp;omega
   unfold QeU;rw[<- this];cases decide (a.results.length<=k)<;>cases decide (b.results.length<=k)<;>rfl
  have Qi2:QeU a b k=true->Qak a b=some k:=λh=>by
   unfold Qak;rw[<- hM,List.find?_range_eq_some];exact⟨h,by simpa using Qs,λj hj=>by simpa using Jw j hj⟩
  simp only[go_sem,Qs];by_cases h1:N<=k
  ·rw[Qi2 (by rw[Ld,Q7 h1];rfl)];apply QH hb [0,1,2,3,4,5,6,7,8,9,10,11,12,13,14,15,16,17,18,19,21,22,23,1020,1024,1025,26,27];simp only[go_sem,Q7 h1];rfl
  ·have h1a:k<a.results.length:=by omega
   have h1b:k<b.results.length:=by omega
   by_cases h2:a.results.getD k default=b.results.getD k default
   ·have l1:=QmS a.events k;have l2:=QmS b.events k;have c1:=QmQ a.events k a2;have c2:=QmQ b.events k b2;have c3:=QGj (Sz7 a.events k) (Sz7 b.events k) (by omega) (by omega);rw[QQ h1,Q7 h2,Ca,NA,NA]at Ld;generalize Sz7 a.events k=u at *;generalize Sz7 b.events k=v at *;apply QH hb [0,1,2,3,4,5,6,7,8,9,10,11,12,13,14,15,16,17,18,19,21,22,23,1020,1024,1025,26,27];simp only[go_sem,QQ h1,h1a,h1b,h2];refine QeN hb Qhj rfl ?_ c1 rfl λd h hR=>?_
    ·simp only[go_sem]
    obtain⟨rfl,rfl⟩:=hR;simp only[go_sem];apply V6 hb;refine QeN hb Qhj rfl ?_ c2 rfl λd h hR=>?_
    ·simp only[go_sem]
    obtain⟨rfl,rfl⟩:=hR;simp only[go_sem];apply V6 hb;refine QeN hb QyC rfl ?_ c3 rfl λd h hR=>?_
    ·simp only[go_sem]
    obtain⟨rfl,rfl⟩:=hR;simp only[go_sem];apply V6 hb;by_cases huv:u=v
    ·simp only[Q7 huv,Ca]at Ld ⊢;simp only[go_sem];refine⟨by omega,_,QI.to 2 ⟨?_,by simp only[go_sem],?_,?_⟩,λj hj=>?_,rfl⟩
     ·simp only[go_sem,Zq]
     ·simp only[go_sem]
     ·simp only[go_sem]
     ·rcases Cb.1 hj with h4|rfl
      ·exact Jw j h4
      ·exact Ld
    ·simp only[QQ huv,Gb]at Ld ⊢;rw[Qi2 Ld];simp only[go_sem];rfl
   ·have hq:=WD.Qf4 h2;simp only[WD.eqb]at hq;rw[Qi2 (by rw[Ld,QQ h1,QQ h2];rfl)];apply QH hb [0,1,2,3,4,5,6,7,8,9,10,11,12,13,14,15,16,17,18,19,21,22,23,1020,1024,1025,26,27];simp only[go_sem,QQ h1,h1a,h1b,hq];rfl
 ·subst Qs;have eP:Qak a b=none:=by
   unfold Qak;rw[<- hM,List.find?_range_eq_none];intro j hj;simpa using Jw j hj
  rw[eP];apply ZC hb;rfl
def QGq(h){c:Cf}(K:¬jF c):Go.Fg.QL prog 36 h [.agg c.cells] (λd h'=>d=.tup [.raw (.pointer none),Qb 1]/\∃g,h'=h++g):=by
 by_cases a:c.t<1
 ·have d1:=Q7 a;refine QU Qh 200 func36 rfl ntmps36 results36 rfl λbase w pl hb=>?_;simp only[go_sem,Qa,d1];exact⟨_,rfl⟩
 ·have d1:=QQ a;by_cases a2:65536<c.t
  ·have d2:=Q7 a2;refine QU Qh 200 func36 rfl ntmps36 results36 rfl λbase w pl hb=>?_;simp only[go_sem,Qa,d1,d2];exact⟨_,rfl⟩
  ·have d2:=QQ a2;by_cases a3:c.Vc<1
   ·have d3:=Q7 a3;refine QU Qh 200 func36 rfl ntmps36 results36 rfl λbase w pl hb=>?_;simp only[go_sem,Qa,d1,d2,d3];exact⟨_,rfl⟩
   ·have d3:=QQ a3;by_cases a4:16384<c.Vc
    ·have d4:=Q7 a4;refine QU Qh 200 func36 rfl ntmps36 results36 rfl λbase w pl hb=>?_;simp only[go_sem,Qa,d1,d2,d3,d4];exact⟨_,rfl⟩
    ·exact absurd ⟨by omega,by omega,by omega,by omega⟩ K
def QGr(h){c:Cf}(K:¬jF c):Go.Fg.QL prog 12 h [.agg c.cells] (λd h'=>d=.tup [.raw (.pointer none),Qb 1]/\∃g,h'=h++g):=by
 refine QU Qh 200 func12 rfl ntmps12 results12 rfl λbase w pl hb=>?_;simp only[go_sem,Qa];refine Jl hb Qq0 (QGq _ K) λd h2 hR=>?_;obtain⟨rfl,g,rfl⟩:=hR;apply Q1 hb;exact⟨_,rfl⟩
def QGs(x:Yw)(K:¬jF x.config):Zh prog 27 [.agg x.cells] (Qo (.tup [.agg [RZ [],OP []],Qb 1])):=by
 refine pH (R:=λd hh=>d=.tup [.agg [.nil,.nil],Qb 1]) _ rfl (λd hh e=>.inl (by rw[e];exact⟨⟨rfl,rfl,trivial⟩,rfl,trivial⟩)) ?_;refine Uf Qh 200 func27 rfl ntmps27 results27 rfl λbase w hb=>?_;simp only[go_sem,Qa];refine Jl hb Qds (QGr _ K) λd h1 hR=>?_;obtain⟨rfl,g,rfl⟩:=hR;exact LV hb
def Qab(x:Yw):List WD × List Ev × Int:=if RG x.config=true then ((Xp (S0 x.config) x.ops).2.1,(Xp (S0 x.config) x.ops).2.2,0) else ([],[],1)
def QGt(x:Yw)(hl:x.ops.length<=1000)(Js:∀o∈x.ops,JC.Ok o/\JC.Small o):Zh prog 27 [.agg x.cells] (Qo (.tup [.agg [RZ (Qab x).1,OP (Qab x).2.1],Qb (Qab x).2.2])):=by
 unfold Qab;by_cases K:RG x.config=true
 ·rw[Qg K];exact QBv x (QzY.1 K) hl Js
 ·rw[Qd K];exact QGs x λh=>K (QzY.2 h)
def Qad(x:Yw)(n:Nat):Yw:={ x with ops:=x.ops.take n }
def QmZ(x:Yw)(n:Int)(h0:0<=n)(h1:n<=x.ops.length)(hl:x.ops.length<=1000)(Js:∀o∈x.ops,JC.Ok o/\JC.Small o):
  Zh prog 26 [.agg x.cells,Qb n] (Qo (.tup [.agg [RZ (Qab (Qad x n.toNat)).1,OP (Qab (Qad x n.toNat)).2.1],Qb (Qab (Qad x n.toNat)).2.2])):=by
 obtain⟨m,rfl⟩:∃m:Nat,n=m:=⟨n.toNat,by omega⟩;rw[Int.toNat_natCast];have hR:=QGt (Qad x m) (by show (x.ops.take m).length<=1000;rw[Qag];omega) λo ho=>Js o (List.mem_of_mem_take ho);have hm:m<=x.ops.length:=by omega
 have d0:=QQ (show ¬ (m:Int)<0 by omega);have d1:=QQ (show ¬ x.ops.length<m by omega);have hz:((m:Int) - 0).toNat=m:=by omega
 have BO:(x.ops.take m).length=m:=by rw[Qag];omega
 have Zx:∀i,i<m->(x.ops.take m).getD i default=x.ops.getD i default:=λi hi=>by rw[Q8,List.getElem?_take_of_lt hi,Q8]
 have hR:Zh prog 27 [.agg [Qb x.config.t,Qb x.config.Vc,.imm 10 m (JC.rows x.ops)]] (Qo (.tup [.agg [RZ (Qab (Qad x m)).1,OP (Qab (Qad x m)).2.1],Qb (Qab (Qad x m)).2.2])):=by
  refine Go.Fg.QL.Qmq hR ?_;refine⟨⟨rfl,rfl,⟨rfl,BO,λi hi=>?_⟩,trivial⟩,trivial⟩;show qb _ (x.ops.getD i default).cells ((x.ops.take m).getD i default).cells;rw[Zx i (by show i<m;exact BO▸hi)];exact Af (xN _) _
 generalize Qab (Qad x m)=Z at hR ⊢;refine Zy 0 Qh 200 func26 rfl ntmps26 results26 rfl λbase w hb=>?_;simp only[go_sem];simp only[go_sem,d0,d1,hm,hz];refine xM hb [] QqY rfl ?_ hR rfl λd h hR=>?_
 ·simp only[go_sem,Qa,Qad,BO];rfl
 obtain⟨rfl,rfl⟩:=hR;simp only[go_sem,Qa];exact LV hb
def QeZ(e:Int):WD:=⟨e,0,0⟩
def ev0(op:Int):Ev:=⟨op,false,false,0,0,0,0,0,0,0,0,0⟩
def o39:Mz7:=⟨[QeZ 0,QeZ 1,QeZ 0],[ev0 0,ev0 2,ev0 2]⟩
def a39:Mz7:=⟨[QeZ 0,QeZ 1],[ev0 0]⟩
def Qf0:o39.Small:=⟨by decide,by decide⟩
def QGu:a39.Small:=⟨by decide,by decide⟩
theorem QGv:Qaa o39 2=a39:=rfl
def QGw:Qak o39 a39=some 2:=by decide
def QGx:Qak o39 o39=none:=by decide
def Qff:List D:=[Qb 0,.nil,.nil,.raw (.int .u64 0),Qb 0,.raw (.int .u16 0),.raw (.int .u16 0),.raw (.int .u16 0),.raw (.int .u16 0),.raw (.int .u64 0)]
def Qm0(k):qb (Jv (k+1)) Qff (default:JC).cells:=⟨rfl,rfl,rfl,rfl,rfl,rfl,rfl,rfl,rfl,rfl,trivial⟩
def Qgb:Mz7:=⟨[⟨1,0,0⟩],[]⟩
def Qge:Yw:=⟨⟨1,1⟩,[default,default]⟩
theorem QGy:Qab (Qad Qge 1)=([⟨1,0,0⟩],[],0):=rfl
def QGz(f)(h0:f 0=Qff)(h1:f 1=Qff):Zh prog 26 [.agg [Qb 1,Qb 1,.imm 10 2 f],Qb 1] (Qo (.tup [.agg Qgb.cells,Qb 0])):=by
 have hz:JC.Ok default/\JC.Small default:=⟨⟨rfl,⟨JQ _,λa ha=>(by cases ha)⟩,⟨JQ _,λa ha=>(by cases ha)⟩,⟨rfl,rfl,rfl,rfl,rfl,rfl,trivial⟩,rfl,trivial⟩,⟨by decide,by decide⟩⟩;have h:=QmZ Qge 1 (by decide) (by decide) (by decide) λo ho=>by
  have:o=default:=by simpa[Qge] using ho
  rw[this];exact hz
 rw[show (1:Int).toNat=1 from rfl,QGy]at h;refine Go.Fg.QL.Qmq h ⟨⟨rfl,rfl,⟨rfl,rfl,λi hi=>?_⟩,trivial⟩,rfl,trivial⟩;have hi:i<2:=hi;obtain rfl|rfl:i=0\/i=1:=by omega
 ·rw[h0];exact Qm0 _
 ·rw[h1];exact Qm0 _
def Qfk:Zh prog 25 [] (Qo (QY true)):=by
 have c1:=QmT o39 2 Qf0;have c2:=QmV o39 a39 Qf0 QGu;have c3:=QmV o39 o39 Qf0 Qf0;rw[QGv]at c1;rw[QGw]at c2;rw[QGx]at c3;refine Zy 0 Qh 19 func25 rfl ntmps25 results25 rfl λbase w hb=>?_;simp only[go_sem];refine EO (QI.rows 0 (WD.rows o39.results) (by exact rfl) ?_) ?_
 ·intro i hi;dsimp only at hi ⊢;(match i,hi with|0,_=>rfl|1,_=>rfl|2,_=>rfl|i+3,h=>exact absurd h (by show ¬(i+3<3);omega))
 simp only[go_sem];refine EO (QI.rows 1 (Ev.rows o39.events) (by exact rfl) ?_) ?_
 ·intro i hi;dsimp only at hi ⊢;(match i,hi with|0,_=>rfl|1,_=>rfl|2,_=>rfl|i+3,h=>exact absurd h (by show ¬(i+3<3);omega))
 simp only[go_sem];refine EO (QI.freeze rfl 0 rfl rfl (λi hi=>by simp only[go_sem])) ?_;simp only[go_sem];refine EO (QI.freeze rfl 1 rfl rfl (λi hi=>by simp only[go_sem])) ?_;simp only[go_sem];apply Q1 hb;refine xM hb [] Qg9 rfl ?_ c1 rfl λd h hR=>?_
 ·simp only[go_sem];rfl
 obtain⟨rfl,rfl⟩:=hR;simp only[go_sem];apply Q1 hb;refine xM hb [] Qhh rfl ?_ c2 rfl λd h hR=>?_
 ·simp only[go_sem];rfl
 obtain⟨rfl,rfl⟩:=hR;simp only[go_sem];apply Q1 hb;refine xM hb [] Qhh rfl ?_ c3 rfl λd h hR=>?_
 ·simp only[go_sem];exact⟨rfl,rfl⟩
 obtain⟨rfl,rfl⟩:=hR;simp only[go_sem];apply Q1 hb;refine GW (QI.rows 4 (λ_=>Qff) (by exact rfl) ?_) ?_
 ·intro i hi;dsimp only at hi ⊢;(match i,hi with|0,_=>rfl|1,_=>rfl|i+2,h=>exact absurd h (by show ¬(i+2<2);omega))
 simp only[go_sem];refine GW (QI.freeze rfl 4 rfl rfl (λi hi=>rfl)) ?_;simp only[go_sem];refine xM hb [] QeT rfl ?_ (QGz (λ_=>Qff) rfl rfl) rfl λd h hR=>?_
 ·simp only[go_sem]
 obtain⟨rfl,rfl⟩:=hR;have l1:a39.results.length=2:=rfl;have l2:a39.events.length=1:=rfl;have l3:Qgb.results.length=1:=rfl;have l4:(Qgb.results.getD 0 default).err=1:=rfl;have l5:∀n:Nat,((n:Int)==(n:Int))=true:=λn=>ID _;simp only[go_sem];refine Qf hb ?_;simp only[go_sem,Qa,l1,l2,l3,l4,KS,jP,kP,Go.undef]
end Go.Fg.X
