/- The statement AuditClean is proved. No conditions. -/
import Derived.Test.YtagebhlinnibkaaGreatTB5B
import Derived.Test.YtagebhlinnibkaaGreatNA4B
import Derived.Test.YtagebhlinnibkaaGreatSC4B
import Derived.Test.YtagebhlinnibkaaGreatCA3B
import Derived.Test.YtagebhlinnibkaaGreatRows
set_option maxRecDepth 100000
set_option maxHeartbeats 16000000
set_option linter.unusedVariables false
set_option linter.unusedSimpArgs false
set_option linter.unusedSectionVars false
set_option linter.defProp false
namespace Go.Fg.X
open Go.Proofs Go.Fg
open Go.Proofs.Tryz
def QGC{M:Qq}(I:Qy M)(V:Inv M){j}(h:Zn M j≠[]):j∈V6 M/\j∈up M.T j:=by
 unfold Zn QD at h;cases hn:Ql M.N j with
 | none=>rw[hn]at h;exact absurd rfl h
 | some n=>
  have hl:n.c.leaf=true:=by
   cases hl:n.c.leaf with
   | true=>rfl
   | false=>
    have:=V.wJ j n hn hl;rw[hn]at h;refine absurd ?_ h;show n.q.l=[];rw[this]
  have Zg:=Qy.id (M:=M) hn;refine⟨J8.2 ⟨Jk.2 ⟨n.c,J8.2 ⟨((Vs I.tree.rising).1 (I.some hn)).1,hl⟩,Zg⟩,?_⟩,?_⟩
  ·show (!(QD M j).q.l.isEmpty)=true;unfold QD;rw[hn];rw[hn]at h;cases hq:n.q.l with
   | nil=>exact absurd hq h
   | cons a b=>show (!((some n).getD default).q.l.isEmpty)=true;show (!n.q.l.isEmpty)=true;rw[hq];rfl
  ·rw[lT I.tree,I.some hn];exact Vn
def QGD{M}(I:Qy M)(V:Inv M)(b){l}(hl:∀c∈l,JH.Ok c)(j):Zn (Ke M b l) j=Zn M j:=by
 unfold Ke;split
 ·rename_i he;have I2:=(RV I.tree I.yN hl).1;have hb:kf M (JM M.T l) b=false:=by
   unfold zX at he;split at he
   ·rename_i h;exact absurd he h
   ·split at he
    ·cases he
    ·rename_i h;simpa using h
  have hf:Ql (xL M (JM M.T l)).N j=if j∈Ko M.T (JM M.T l) then (QF (JM M.T l) j).map X0 else Ql M.N j:=by
   show Ql (X1 M (JM M.T l)) j=_;rw[Ls I I2];exact Ha I2.rising j _ _
  by_cases ht:j∈Ko M.T (JM M.T l)
  ·rw[Qf ht]at hf;have h0:Zn M j=[]:=jM λh=>by
    obtain⟨h1,h2⟩:=QGC I V h;have:yS M j=true:=Eb.2 ⟨j,h1,by simpa using h2⟩;unfold kf at hb;rw[show (Ko M.T (JM M.T l)).any (yS M)=true from Eb.2 ⟨j,ht,this⟩]at hb;cases hb
   rw[h0];unfold Zn QD;rw[hf];cases QF (JM M.T l) j<;>rfl
  ·rw[Qd ht]at hf;unfold Zn QD;rw[hf]
 ·rfl
def QoB{M}(I:Qy M){j}(h:Zn M j≠[]):1<=j:=by
 unfold Zn QD at h;cases hn:Ql M.N j with
 | none=>rw[hn]at h;exact absurd rfl h
 | some n=>
  have Zg:=Qy.id (M:=M) hn;have:=I.tree.ids n.c ((Vs I.tree.rising).1 (I.some hn)).1;omega
def Ev.pk(e:Ev):Pk:=⟨e.id,e.len,e.h0,e.h1,e.h2,e.h3⟩
def OE(a b:Pk):Bool:=a.iD==b.iD&&(a.len==b.len&&(a.yo==b.yo&&(a.yp==b.yp&&(a.yq==b.yq&&a.yr==b.yr))))
def QGE(a b):OE a b=true↔a=b:=by
 obtain⟨a1,a2,a3,a4,a5,a6⟩:=a;obtain⟨b1,b2,b3,b4,b5,b6⟩:=b;simp[OE]
@[go_sem] def Hr(x:Cf)(lm:Nat)(l:Ev)(done:Int)(q:D):List D:=[Qb x.t,Qb x.JK,.mref lm 0,Qb l.op,QJ l.J4,QJ l.real,cw l.at_,cw l.done,Qb l.cls,cw l.id,Qb l.len,.raw (.int .u16 l.h0),.raw (.int .u16 l.h1),.raw (.int .u16 l.h2),.raw (.int .u16 l.h3),cw done,q]
section
variable (h:List Ob)(lb la lm:Nat)(x:Cf)(l:Ev)(done:Int)(q:D)(e:Ev)
 (Vu:(h.map Ob.ro)[lb]? = some ⟨.Wn,0,1,1,λ_=>[.ptr la 0 0 0]⟩) (ha:(h.map Ob.ro)[la]? = some ⟨.Wn,0,17,1,λ_=>Hr x lm l done q⟩)
include Vu ha
theorem QGF:QV prog 124 h [.agg e.cells,.ptr lb 0 0 0] (λd=>d=QJ (decide (e.op<0\/e.op<l.op\/e.cls<1))):=by
 refine Zq Qi 200 func124 rfl ntmps124 results124 rfl λbase w pl F hF Q3 hb=>?_;rw[<- hF]at Vu ha;have Xs:=Qc Vu;have Zx:=Qc ha;simp only[go_sem,Qa,Vu,Xs,ha,Zx];apply QH hb [0,1,2,3,4,5,6,7,8,9,10,11,12,13,14,15,16,17,18];simp only[go_sem,Qa,Vu,ha,Xs,Zx]
 repeat' (first|((first|refine zE (λh=>?_) (λh=>?_)|refine zF (λh=>?_) (λh=>?_)|refine zG (λh=>?_) (λh=>?_)|refine XS (λh=>?_) (λh=>?_)|refine zH (λh=>?_) (λh=>?_)|refine zI (λh=>?_) (λh=>?_)|refine zJ (λh=>?_) (λh=>?_)|refine zD (λh=>?_) (λh=>?_))<;>(try simp only[go_sem,Qa,Vu,ha,Xs,Zx]))|(refine And.intro (by omega) ?_;try simp only[go_sem,Qa,Vu,ha,Xs,Zx]))
 all_goals refine⟨_,rfl,?_⟩
 all_goals (congr 2;rw[kx];simp only[XM,qa,false_iff,true_iff];omega)
theorem QGG:QV prog 125 h [.agg e.cells,.ptr lb 0 0 0] (λd=>d=QJ (decide (e.at_<l.at_\/4611686018427387904<e.at_))):=by
 refine Zq Qi 200 func125 rfl ntmps125 results125 rfl λbase w pl F hF Q3 hb=>?_;rw[<- hF]at Vu ha;have Xs:=Qc Vu;have Zx:=Qc ha;simp only[go_sem,Qa,Vu,Xs,ha,Zx];apply QH hb [0,1,2,3,4,5,6,7,8,9,10,11,12,13];simp only[go_sem,Qa,Vu,ha,Xs,Zx]
 repeat' (first|((first|refine zE (λh=>?_) (λh=>?_)|refine zF (λh=>?_) (λh=>?_)|refine zG (λh=>?_) (λh=>?_)|refine XS (λh=>?_) (λh=>?_)|refine zH (λh=>?_) (λh=>?_)|refine zI (λh=>?_) (λh=>?_)|refine zJ (λh=>?_) (λh=>?_)|refine zD (λh=>?_) (λh=>?_))<;>(try simp only[go_sem,Qa,Vu,ha,Xs,Zx]))|(refine And.intro (by omega) ?_;try simp only[go_sem,Qa,Vu,ha,Xs,Zx]))
 all_goals refine⟨_,rfl,?_⟩
 all_goals (congr 2;rw[kx];simp only[XM,qa,false_iff,true_iff];omega)
theorem QGH:QV prog 126 h [.agg e.cells,.ptr lb 0 0 0] (λd=>d=QJ (Cd e.pk x.JK != 0)):=by
 refine Zq Qi 200 func126 rfl ntmps126 results126 rfl λbase w pl F hF Q3 hb=>?_;rw[<- hF]at Vu ha;have Xs:=Qc Vu;have Zx:=Qc ha;simp only[go_sem,Qa,Vu,Xs,ha,Zx];apply QH hb [0,1,2,3,4,5,6,1007,8,9];simp only[go_sem,Qa,Vu,ha,Xs,Zx];refine Vj hb QhK rfl ?_ (QmV e.pk x.JK) (Qn.flat rfl) rfl λd h hR=>?_
 ·simp only[go_sem,Qa,Vu,ha,Xs,Zx,Ev.pk]
 obtain⟨rfl,rfl⟩:=hR;refine Zr hb ?_;simp only[go_sem,Qa,Vu,ha,Xs,Zx,Ev.pk];all_goals exact⟨_,rfl⟩
omit Vu ha in
theorem QGI:QV prog 128 h [.agg e.cells] (λd=>d=QJ (e.J4&&(e.done != 0 || e.real))):=by
 refine Zq Qi 200 func128 rfl ntmps128 results128 rfl λbase w pl F hF Q3 hb=>?_;simp only[go_sem,Qa]
 repeat' (first|((first|refine zE (λh=>?_) (λh=>?_)|refine zF (λh=>?_) (λh=>?_)|refine zG (λh=>?_) (λh=>?_)|refine XS (λh=>?_) (λh=>?_)|refine zH (λh=>?_) (λh=>?_)|refine zI (λh=>?_) (λh=>?_)|refine zJ (λh=>?_) (λh=>?_)|refine zD (λh=>?_) (λh=>?_))<;>(try simp only[go_sem,Qa]))|(refine And.intro (by omega) ?_;try simp only[go_sem,Qa]))
 all_goals refine⟨_,rfl,?_⟩
 all_goals simp_all
theorem QGJ:QV prog 131 h [.agg e.cells,.ptr lb 0 0 0] (λd=>d=QJ (decide (e.at_<done))):=by
 refine Zq Qi 200 func131 rfl ntmps131 results131 rfl λbase w pl F hF Q3 hb=>?_;rw[<- hF]at Vu ha;have Xs:=Qc Vu;have Zx:=Qc ha;simp only[go_sem,Qa,Vu,Xs,ha,Zx];apply QH hb [0,1,2,3,4,5,6,7];simp only[go_sem,Qa,Vu,ha,Xs,Zx];all_goals exact⟨_,rfl⟩
omit Vu in
theorem QGK:QV prog 132 h [.ptr la 0 0 0,.agg e.cells] (λd=>d=QJ (e.done != IntKind.u64.wrap (e.at_+DQ e.pk x.t))):=by
 refine Zq Qi 200 func132 rfl ntmps132 results132 rfl λbase w pl F hF Q3 hb=>?_;rw[<- hF]at ha;have Zx:=Qc ha;simp only[go_sem,Qa,ha,Zx];apply QH hb [0,1,2,3,4,5,6,1007,8,9,10,11,12];simp only[go_sem,Qa,ha,Zx];refine Vj hb QhP rfl ?_ (QmW e.pk x.t) (Qn.flat rfl) rfl λd h hR=>?_
 ·simp only[go_sem,Qa,ha,Zx,Ev.pk]
 obtain⟨rfl,rfl⟩:=hR;refine Zr hb ?_;simp only[go_sem,Qa,ha,Zx,Ev.pk];all_goals first|exact⟨_,rfl,rfl⟩|exact⟨_,rfl⟩|rfl|exact⟨[],(QU _).symm⟩|exact⟨[],(QU _).symm,rfl⟩
def A5(f:Ob->Ob)(h:List Ob)(d:D)(p:List Pk):Prop:=(d=.nil/\p=[])\/∃lo g off row,d=.ref lo g off p.length/\h[lo]? = some (f ⟨.arr,g,6,off+p.length,row⟩)/\∀i,i<p.length->row (off+i)=(p.getD i default).cells
variable {es:List ZU}{c:Nat}{p:List Pk}(hm:(h.map Ob.ro)[lm]? = some (QS .i64 c es).ro)
include hm
theorem QGL(hp:A5 Ob.ro (h.map Ob.ro) ((ZJ es e.cls).getD .nil) p):QV prog 129 h [.agg e.cells,.ptr lb 0 0 0] (λd=>d=QJ (p.length==0)):=by
 refine Zq Qi 200 func129 rfl ntmps129 results129 rfl λbase w pl F hF Q3 hb=>?_;rw[<- hF]at Vu ha hm;have Xs:=Qc Vu;have Zx:=Qc ha;have QG:=Qc hm;simp only[go_sem,Qa,Vu,Xs,ha,Zx,hm,QG];cases hk:ZJ es e.cls with
 | none=>
  rw[hk]at hp;rcases hp with ⟨h1,rfl⟩|⟨lo,g,off,row,h1,h2,h3⟩
  ·apply QH hb [0,1,2,3,4,5,6,7,8,9];simp only[go_sem,Qa,Vu,ha,Xs,Zx,hm,QG,hk];all_goals first|exact⟨_,rfl,rfl⟩|exact⟨_,rfl⟩|rfl|exact⟨[],(QU _).symm⟩|exact⟨[],(QU _).symm,rfl⟩
  ·cases h1
 | some d=>
  rw[hk]at hp;rcases hp with ⟨h1,rfl⟩|⟨lo,g,off,row,h1,h2,h3⟩
  ·simp only[KA]at h1;subst h1;apply QH hb [0,1,2,3,4,5,6,7,8,9];simp only[go_sem,Qa,Vu,ha,Xs,Zx,hm,QG,hk];all_goals first|exact⟨_,rfl,rfl⟩|exact⟨_,rfl⟩|rfl|exact⟨[],(QU _).symm⟩|exact⟨[],(QU _).symm,rfl⟩
  ·simp only[KA]at h1;subst h1;apply QH hb [0,1,2,3,4,5,6,7,8,9];simp only[go_sem,Qa,Vu,ha,Xs,Zx,hm,QG,hk];refine⟨_,rfl,?_⟩;congr 2;rw[kx];simp
theorem QGM(hp:A5 Ob.ro (h.map Ob.ro) ((ZJ es e.cls).getD .nil) p)(Qz:p≠[]):QV prog 130 h [.agg e.cells,.ptr lb 0 0 0] (λd=>d=QJ (!OE (p.getD 0 default) e.pk)):=by
 cases hk:ZJ es e.cls with
 | none=>
  rw[hk]at hp;rcases hp with ⟨h1,rfl⟩|⟨lo,g,off,row,h1,h2,h3⟩
  ·exact absurd rfl Qz
  ·cases h1
 | some d=>
  rw[hk]at hp;rcases hp with ⟨h1,rfl⟩|⟨lo,g,off,row,h1,h2,h3⟩
  ·exact absurd rfl Qz
  ·refine Zq Qi 200 func130 rfl ntmps130 results130 rfl λbase w pl F hF Q3 hb=>?_;rw[<- hF]at Vu ha hm h2;have Xs:=Qc Vu;have Zx:=Qc ha;have QG:=Qc hm;have K9:=Qc h2;simp only[go_sem,Qa,Vu,Xs,ha,Zx,hm,QG,h2,K9];simp only[KA]at h1;subst h1;have qk:0<p.length:=eu.2 Qz;have h4:=h3 0 qk;simp only[FM]at h4;apply QH hb [0,1,2,3,4,5,6,7,8,9,10,11,12];simp only[go_sem,Qa,Vu,ha,Xs,Zx,hm,QG,hk,h2,K9,h4,qk];refine⟨by omega,by omega,?_⟩;all_goals first|exact⟨_,rfl,rfl⟩|exact⟨_,rfl⟩|rfl|exact⟨[],(QU _).symm⟩|exact⟨[],(QU _).symm,rfl⟩
end
section
variable (h:List Ob)(lw:Nat)(e:Ev)(f:FuncId)(lc:Nat)(B:Bool)
def QdS(hf:Qo prog f)(hw:(h.map Ob.ro)[lw]? = some ⟨.Wn,0,1,1,λ_=>[.clo f 0 [.ptr lc 0 0 0]]⟩)(hq:e.J4=false->∀h':List Ob,(∀(l:Nat) (o:Ob),(h.map Ob.ro)[l]? = some o->(h'.map Ob.ro)[l]? = some o)->QV prog f h' [.agg e.cells,.ptr lc 0 0 0] (λd=>d=QJ B)):
  QV prog 123 h [.agg e.cells,.ptr lw 0 0 0] (λd=>d=QJ (!e.J4&&B)):=by
 have Ry:=hw;refine Zq Qi 200 func123 rfl ntmps123 results123 rfl λbase w pl F hF Q3 hb=>?_;rw[<- hF]at hw;have dK:=Qc hw;simp only[go_sem,Qa,hw,dK];cases hi:e.J4 with
 | true=>
  simp only[go_sem,Qa,hi];exact⟨_,rfl⟩
 | false=>
  simp only[go_sem,Qa,hi,hw,dK];refine Z8 hb hf rfl ?_ (hq hi _ λl o hl=>?_) rfl λd hR=>?_
  ·simp only[go_sem,Qa,hi]
  ·rw[jN,hF,xT];have:=Qc hl;rw[Qx (by simpa using this)];simp only[KG]at hl ⊢;rw[<- hl];cases h[l]? with
   | none=>rfl
   | some o=>simp[ro_ro]
  ·subst hR;apply QC hb;all_goals first|exact⟨_,rfl,rfl⟩|exact⟨_,rfl⟩|rfl|exact⟨[],(QU _).symm⟩|exact⟨[],(QU _).symm,rfl⟩
def QGN(hf:Qo prog f)(hw:(h.map Ob.ro)[lw]? = some ⟨.Wn,0,1,1,λ_=>[.clo f 1 [.ptr lc 0 0 0]]⟩)(hq:e.J4=false->∀h':List Ob,(∀(l:Nat) (o:Ob),(h.map Ob.ro)[l]? = some o->(h'.map Ob.ro)[l]? = some o)->QV prog f h' [.ptr lc 0 0 0,.agg e.cells] (λd=>d=QJ B)):
  QV prog 123 h [.agg e.cells,.ptr lw 0 0 0] (λd=>d=QJ (!e.J4&&B)):=by
 have Ry:=hw;refine Zq Qi 200 func123 rfl ntmps123 results123 rfl λbase w pl F hF Q3 hb=>?_;rw[<- hF]at hw;have dK:=Qc hw;simp only[go_sem,Qa,hw,dK];cases hi:e.J4 with
 | true=>
  simp only[go_sem,Qa,hi];exact⟨_,rfl⟩
 | false=>
  simp only[go_sem,Qa,hi,hw,dK];refine Z8 hb hf rfl ?_ (hq hi _ λl o hl=>?_) rfl λd hR=>?_
  ·simp only[go_sem,Qa,hi]
  ·rw[jN,hF,xT];have:=Qc hl;rw[Qx (by simpa using this)];simp only[KG]at hl ⊢;rw[<- hl];cases h[l]? with
   | none=>rfl
   | some o=>simp[ro_ro]
  ·subst hR;apply QC hb;all_goals first|exact⟨_,rfl,rfl⟩|exact⟨_,rfl⟩|rfl|exact⟨[],(QU _).symm⟩|exact⟨[],(QU _).symm,rfl⟩
end
structure L6 (h:List Ob) (es:List ZU) (W:Int->List Pk):Prop where
 at_:∀k,A5 id h ((ZJ es k).getD .nil) (W k)
 sep:∀k k' lo g off n g' jg n',ZJ es k=some (.ref lo g off n)->ZJ es k'=some (.ref lo g' jg n')->k=k'
def QGO(h h':List Ob):Prop:=∀(l:Nat) (o:Ob),h[l]? = some o->o.kd.ty=0->o.sz≠17->o.sz≠6->h'[l]? = some o
def jd(W:Int->List Pk)(e:Ev):Int->List Pk:=λk=>if k=e.cls then (if e.J4 then W k++[e.pk] else (W k).tail) else W k
def OF{h:List Ob}{l m:Nat}{o o':Ob}(a:h[l]? = some o)(b:h[m]? = some o')(hn:o.sz≠o'.sz):l≠m:=by
 rintro rfl;rw[a]at b;cases b;exact hn rfl
def L6.set{h h':List Ob}{es es'}{W}(w:L6 h es W){k}{d}{p}(lo)(ho:∀(l:Nat) (o:Ob),h[l]? = some o->o.sz=6->l≠lo->h'[l]? = some o)
  (hd:A5 id h' d p) (hl:∀l g off n,d=.ref l g off n->l=lo) (hs:∀k' l g off n,k'≠k->ZJ es k'=some (.ref l g off n)->l≠lo)
  (he:∀k',ZJ es' k'=if k'=k then some d else ZJ es k'):L6 h' es' (λk'=>if k'=k then p else W k'):=by
 refine⟨λk'=>?_,λk1 k2 l g off n g' jg n' h1 h2=>?_⟩
 ·rw[he k'];by_cases hk:k'=k
  ·rw[Qf hk,Qf hk];exact hd
  ·rw[Qd hk,Qd hk];rcases w.at_ k' with ⟨h1,h2⟩|⟨l,g,off,row,h1,h2,h3⟩
   ·exact .inl ⟨h1,h2⟩
   ·refine .inr ⟨l,g,off,row,h1,ho l _ h2 rfl ?_,h3⟩;cases ha:ZJ es k' with
    | none=>rw[ha]at h1;cases h1
    | some d'=>
     rw[ha]at h1;simp only[KA]at h1;subst h1;exact hs k' l g off _ hk ha
 ·rw[he k1]at h1;rw[he k2]at h2;by_cases a1:k1=k<;>by_cases a2:k2=k
  ·rw[a1,a2]
  ·rw[Qf a1]at h1;rw[Qd a2]at h2;exact absurd (hl _ _ _ _ (FP h1)) (hs k2 _ _ _ _ a2 h2)
  ·rw[Qd a1]at h1;rw[Qf a2]at h2;exact absurd (hl _ _ _ _ (FP h2)) (hs k1 _ _ _ _ a1 h1)
  ·rw[Qd a1]at h1;rw[Qd a2]at h2;exact w.sep k1 k2 l g off n g' jg n' h1 h2
structure dL (h:List Ob) (la lm:Nat) (x:Cf) (e:Ev) (done:Int) (q:D) (W:Int->List Pk) (h':List Ob):Prop where
 a:h'[la]? = some ⟨.one,0,17,1,λ_=>Hr x lm e done q⟩
 m:∃c' es',h'[lm]? = some (QS .i64 c' es')/\L6 h' es' W
 s:QGO h h'
def QdT{h h':List Ob}{la lm lo c}{es}{W}{x}{e}{done}{q}{d}{p}{o:Ob}(w:L6 h es W)(ha:h[la]? = some o)(QGP:o.sz=17)(hm:h[lm]? = some (QS .i64 c es))
  (h1:h'[la]? = some ⟨.one,0,17,1,λ_=>Hr x lm e done q⟩) (h2:h'[lm]? = some (J2 .i64 c es e.cls d)) (hd:A5 id h' d p) (hl:∀l g off n,d=.ref l g off n->l=lo)
  (hs:∀k' l g off n,k'≠e.cls->ZJ es k'=some (.ref l g off n)->l≠lo) (ho:∀(l:Nat) (o:Ob),h[l]? = some o->l≠la->l≠lm->l≠lo->h'[l]? = some o) (Zm:∀o,h[lo]? = some o->o.sz=6) :
  dL h la lm x e done q (λk'=>if k'=e.cls then p else W k') h':=by
 have hmz:(QS .i64 c es).sz=3:=rfl;obtain⟨c',es',h3,h4⟩:=rO .i64 c es e.cls d;refine⟨h1,⟨c',es',by rw[h2,h3],w.set lo (λl o Zm h6 Qz=>ho l o Zm ?_ ?_ Qz) hd hl hs h4⟩,λl o hg hk h17 h6=>ho l o hg ?_ ?_ ?_⟩
 ·exact OF Zm ha (by omega)
 ·exact OF Zm hm (by omega)
 ·rintro rfl;rw[ha]at hg;cases hg;exact h17 QGP
 ·rintro rfl;rw[hm]at hg;cases hg;exact absurd hk (by show (1:Nat)≠0;decide)
 ·rintro rfl;exact h6 (Zm o hg)
def A5.nil{f}{h}{p}(hp:A5 f h .nil p):p=[]:=by
 rcases hp with ⟨_,h⟩|⟨_,_,_,_,h,_⟩
 ·exact h
 ·cases h
def QGR(h)(la lm)(x)(l:Ev)(done)(q)(e:Ev)(es)(c)(W)
  (ha:h[la]? = some ⟨.one,0,17,1,λ_=>Hr x lm l done q⟩) (hm:h[lm]? = some (QS .i64 c es)) (hW:L6 h es W) (Qz:e.J4=false->W e.cls≠[]) (hbd:(W e.cls).length<100000000) :
  QK prog 73 h [.ptr la 0 0 0,.agg e.cells] (λd h'=>dL h la lm x e (if e.J4 then done else e.done) q (jd W e) h'):=by
 have h1:la≠lm:=OF ha hm (by show (17:Nat)≠3;decide);have hp:=hW.at_ e.cls;have Jy:∀(es':List ZU) k' l g off n n',n'=h.length+2->L6 h es' W->ZJ es' k'=some (.ref l g off n)->l≠n':=λes' k' l g off n n' hn hw hk=>by
  rcases hw.at_ k' with ⟨h2,_⟩|⟨l',_,_,_,h2,h3,_⟩
  ·rw[hk]at h2;cases h2
  ·rw[hk]at h2;cases h2;have:=Qc h3;omega
 cases hi:e.J4 with
 | true=>
  have ZF:jd W e=λk'=>if k'=e.cls then W e.cls++[e.pk] else W k':=by
   funext k;unfold jd;rw[hi];by_cases hk:k=e.cls<;>simp[hk]
  rw[ZF];have new:(ZJ es e.cls=none\/ZJ es e.cls=some .nil)->W e.cls=[]->dL h la lm x e done q (λk'=>if k'=e.cls then W e.cls++[e.pk] else W k')
    ((h.set la ⟨.one,0,17,1,λ_=>Hr x lm e done q⟩).set lm (J2 .i64 c es e.cls (.ref (h.length+2) 0 0 1))++[⟨.one,0,12,1,λ_=>e.cells⟩,⟨.arr,0,6,1,λ_=>e.pk.cells⟩,⟨.arr,0,6,1,λ_=>e.pk.cells⟩]):=λhk hw=>by
   have Zx:=Qc ha;have QG:=Qc hm;refine QdT (lo:=h.length+2) (d:=.ref (h.length+2) 0 0 1) hW ha rfl hm ?_ ?_ (.inr ⟨h.length+2,0,0,λ_=>e.pk.cells,?_,?_,?_⟩) (λl g off n e=>by cases e;rfl) (λk' l g off n _ ZE=>Jy es k' l g off n _ rfl hW ZE) (λl o ho n1 n2 n3=>?_) (λo ho=>absurd (Qc ho) (by omega))
   ·rw[Qx (by simpa using Zx),Qk h1.symm,Qs Zx]
   ·rw[Qx (by simpa using QG),Qs (by simpa using QG)]
   ·rw[hw];rfl
   ·rw[Vr (by simp),hw];rfl
   ·intro i hi;rw[hw]at hi ⊢;simp at hi;subst hi;rfl
   ·have:=Qc ho;rw[Qx (by simpa using this),Qk (Q8 n2),Qk (Q8 n1),ho]
  cases hk:ZJ es e.cls with
  | none=>
   rw[hk]at hp;have hw:=hp.nil;refine Q6 Qi 200 func73 rfl ntmps73 results73 rfl λbase w pl hb=>?_;have Zx:=Qc ha;have QG:=Qc hm;simp only[go_sem,Qa,ha,Zx,hm,QG,hi,h1,h1.symm,hk];apply Va [] hb [0,1,2,4,6,7,8,9,10,11,12,13,14] [3,5,15,16,17];simp only[go_sem,Qa,ha,Zx,hm,QG,hi,h1,h1.symm,hk,Qs,Qk,↓reduceIte];have fin:=new (.inl hk) hw;simp only[go_sem,Ev.pk,hi]at fin ⊢
   repeat' apply And.intro
   all_goals exact fin
  | some d=>
   rw[hk]at hp;rcases hp with ⟨h2,h3⟩|⟨lo,g,off,row,h2,h3,h4⟩
   ·simp only[KA]at h2;subst h2;refine Q6 Qi 200 func73 rfl ntmps73 results73 rfl λbase w pl hb=>?_;have Zx:=Qc ha;have QG:=Qc hm;simp only[go_sem,Qa,ha,Zx,hm,QG,hi,h1,h1.symm,hk];apply Va [] hb [0,1,2,4,6,7,8,9,10,11,12,13,14] [3,5,15,16,17];simp only[go_sem,Qa,ha,Zx,hm,QG,hi,h1,h1.symm,hk,Qs,Qk,↓reduceIte];have fin:=new (.inr hk) h3;simp only[go_sem,Ev.pk,hi]at fin ⊢
    repeat' apply And.intro
    all_goals exact fin
   ·simp only[KA]at h2;subst h2;have h3:h[lo]? = some ⟨.arr,g,6,off+(W e.cls).length,row⟩:=h3;have n1:lo≠la:=OF h3 ha (by show (6:Nat)≠17;decide);have n2:lo≠lm:=OF h3 hm (by show (6:Nat)≠3;decide);have wz:(W e.cls).length<=4294967295:=by omega
    have h9:(W e.cls).length+1<=4294967295:=by omega
    refine Q6 Qi 200 func73 rfl ntmps73 results73 rfl λbase w pl hb=>?_;have Zx:=Qc ha;have QG:=Qc hm;have ZR:=Qc h3;simp only[go_sem,Qa,ha,Zx,hm,QG,h3,ZR,hi,h1,h1.symm,hk,n1,n2,n1.symm,n2.symm];apply Va [] hb [0,1,2,4,6,7,8,9,10,11,12,13,14] [3,5,15,16,17];simp only[go_sem,Qa,ha,Zx,hm,QG,hi,h1,h1.symm,hk,Qs,Qk,h3,ZR,n1,n2,n1.symm,n2.symm,↓reduceIte,wz,h9];have fin:dL h la lm x e done q (λk'=>if k'=e.cls then W e.cls++[e.pk] else W k')
      (((h.set la ⟨.one,0,17,1,λ_=>Hr x lm e done q⟩).set lo ⟨.arr,g+1,6,(W e.cls).length+1,J1 (W e.cls).length off row λ_=>e.pk.cells⟩).set lm (J2 .i64 c es e.cls (.ref lo (g+1) 0 ((W e.cls).length+1)))++[⟨.one,0,12,1,λ_=>e.cells⟩,⟨.arr,0,6,1,λ_=>e.pk.cells⟩]):=by
     refine QdT (lo:=lo) (d:=.ref lo (g+1) 0 ((W e.cls).length+1)) hW ha rfl hm ?_ ?_ (.inr ⟨lo,g+1,0,J1 (W e.cls).length off row λ_=>e.pk.cells,by simp,?_,?_⟩) (λl g off n e=>by cases e;rfl) (λk' l g' jg n' Yg ZE e=>?_) (λl o ho n1 n2 n3=>?_) (λo ho=>by rw[h3]at ho;cases ho;rfl)
     ·rw[Qx (by simpa using Zx),Qk h1.symm,Qk n1,Qs Zx]
     ·rw[Qx (by simpa using QG),Qs (by simpa using QG)]
     ·rw[Qx (by simpa using ZR),Qk n2.symm,Qs (by simpa using ZR)];simp
     ·intro i hi;simp at hi;rw[JV];by_cases XU:i<(W e.cls).length
      ·rw[Ad XU,h4 i XU];simp[XU,JD XU]
      ·have:i=(W e.cls).length:=by omega
       subst this;rw[vL (QB _)];simp
     ·subst e;exact Yg (hW.sep _ _ _ _ _ _ _ _ _ ZE hk)
     ·have:=Qc ho;rw[Qx (by simpa using this),Qk (Q8 n2),Qk (Q8 n3),Qk (Q8 n1),ho]
    simp only[go_sem,Ev.pk,hi]at fin ⊢
    repeat' apply And.intro
    all_goals exact fin
 | false=>
  have ZF:jd W e=λk'=>if k'=e.cls then (W e.cls).tail else W k':=by
   funext k;unfold jd;rw[hi];by_cases hk:k=e.cls<;>simp[hk]
  rw[ZF];have Qz:=Qz hi;cases hk:ZJ es e.cls with
  | none=>
   rw[hk]at hp;exact absurd hp.nil Qz
  | some d=>
   rw[hk]at hp;rcases hp with ⟨h2,h3⟩|⟨lo,g,off,row,h2,h3,h4⟩
   ·exact absurd h3 Qz
   ·simp only[KA]at h2;subst h2;have h3:h[lo]? = some ⟨.arr,g,6,off+(W e.cls).length,row⟩:=h3;have n1:lo≠la:=OF h3 ha (by show (6:Nat)≠17;decide);have n2:lo≠lm:=OF h3 hm (by show (6:Nat)≠3;decide);have qk:0<(W e.cls).length:=eu.2 Qz;refine Q6 Qi 200 func73 rfl ntmps73 results73 rfl λbase w pl hb=>?_;have Zx:=Qc ha;have QG:=Qc hm;have ZR:=Qc h3;simp only[go_sem,Qa,ha,Zx,hm,QG,h3,ZR,hi,h1,h1.symm,hk,n1,n2,n1.symm,n2.symm,Qs,Qk];apply QH hb [0,1,2,3,4,5,6,7,8,9,10,11,12,13,1014];simp only[go_sem,Qa,ha,Zx,hm,QG,hi,h1,h1.symm,hk,Qs,Qk,h3,ZR,n1,n2,n1.symm,n2.symm,↓reduceIte];have fin:dL h la lm x e e.done q (λk'=>if k'=e.cls then (W e.cls).tail else W k')
      ((h.set la ⟨.one,0,17,1,λ_=>Hr x lm e e.done q⟩).set lm (J2 .i64 c es e.cls (.ref lo g (off+1) ((W e.cls).length - 1)))++[⟨.one,0,12,1,λ_=>e.cells⟩]):=by
     refine QdT (lo:=lo) (d:=.ref lo g (off+1) ((W e.cls).length - 1)) hW ha rfl hm ?_ ?_ (.inr ⟨lo,g,off+1,row,by simp,?_,?_⟩) (λl g off n e=>by cases e;rfl) (λk' l g' jg n' Yg ZE e=>?_) (λl o ho n1 n2 n3=>?_) (λo ho=>by rw[h3]at ho;cases ho;rfl)
     ·rw[Qx (by simpa using Zx),Qk h1.symm,Qs Zx]
     ·rw[Qx (by simpa using QG),Qs (by simpa using QG)]
     ·rw[Qx (by simpa using ZR),Qk n2.symm,Qk n1.symm,h3];simp;omega
     ·intro i hi;simp at hi;rw[show off+1+i=off+(i+1) by omega,h4 (i+1) (by omega)];cases hw:W e.cls with
      | nil=>rw[hw]at qk;simp at qk
      | cons a r=>simp
     ·subst e;exact Yg (hW.sep _ _ _ _ _ _ _ _ _ ZE hk)
     ·have:=Qc ho;rw[Qx (by simpa using this),Qk (Q8 n2),Qk (Q8 n1),ho]
    have htn:(((W e.cls).length:Int) - 1).toNat=(W e.cls).length - 1:=by omega
    simp only[go_sem,Ev.pk,hi,htn]at fin ⊢;exact⟨by omega,fin⟩
def pw(h:List Ob)(f)(nf l):Wf prog 122 h [.clo f nf [.ptr l 0 0 0]] (λd g=>d=.clo 123 0 [.ptr h.length 0 0 0]/\g=[⟨.one,0,1,1,λ_=>[.clo f nf [.ptr l 0 0 0]]⟩]):=by
 refine jT Qi 200 func122 rfl ntmps122 results122 rfl λbase w pl F hF Q3 hb=>?_;simp only[go_sem,Qa];simp only[Q3];exact⟨_,rfl,trivial,rfl⟩
def OG:Ev:=⟨0,false,false,0,0,0,0,0,0,0,0,0⟩
def L7(f:FuncId)(nf l:Nat):Ob:=⟨.one,0,1,1,λ_=>[.clo f nf [.ptr l 0 0 0]]⟩
def dM(l:Nat):D:=.clo 123 0 [.ptr l 0 0 0]
structure QGT (n:Nat) (x:Cf) (row:Nat->List D) (g:List Ob):Prop where
 g:g=[⟨.one,0,2,1,λ_=>x.cells⟩,QS .i64 0 [],⟨.one,0,17,1,λ_=>Hr x (n+1) OG 0 (.ref (n+8) 0 0 8)⟩,⟨.one,0,1,1,λ_=>[.ptr (n+2) 0 0 0]⟩,L7 129 0 (n+3),L7 130 0 (n+3),L7 131 0 (n+3),L7 132 1 (n+2),⟨.arr,0,2,8,row⟩]
 r0:row 0=[Qb 1,.clo 124 0 [.ptr (n+3) 0 0 0]]
 r1:row 1=[Qb 27,.clo 125 0 [.ptr (n+3) 0 0 0]]
 r2:row 2=[Qb 26,.clo 126 0 [.ptr (n+3) 0 0 0]]
 r3:row 3=[Qb 4,.raw (.func (.func 128) #[] #[])]
 r4:row 4=[Qb 6,dM (n+4)]
 r5:row 5=[Qb 8,dM (n+5)]
 r6:row 6=[Qb 24,dM (n+6)]
 r7:row 7=[Qb 20,dM (n+7)]
def QGU(h:List Ob)(x:Cf):QK prog 72 h [.agg x.cells] (λd h'=>d=.ptr (h.length+2) 0 0 0/\∃g row,h'=h++g/\QGT h.length x row g):=by
 refine Q6 Qi 200 func72 rfl ntmps72 results72 rfl λbase w pl hb=>?_;simp only[go_sem,Qa];apply QH hb [0,1,2,3,4,5,6,7,8,9,12,13,16,17,20,21,22,1010,11,1014,15,1018,19,1023,24,1025,26,27,1028];simp only[go_sem,Qa];refine Gl hb iU rfl ?_ (pw _ 129 0 (h.length+3)) rfl λd h hR=>?_
 ·simp only[go_sem,Qa]
 obtain⟨rfl,rfl⟩:=hR;apply XF hb;refine Gl hb iU rfl ?_ (pw _ 130 0 (h.length+3)) rfl λd h hR=>?_
 ·simp only[go_sem,Qa]
 obtain⟨rfl,rfl⟩:=hR;apply XF hb;refine Gl hb iU rfl ?_ (pw _ 131 0 (h.length+3)) rfl λd h hR=>?_
 ·simp only[go_sem,Qa]
 obtain⟨rfl,rfl⟩:=hR;apply XF hb;refine Gl hb iU rfl ?_ (pw _ 132 1 (h.length+2)) rfl λd h hR=>?_
 ·simp only[go_sem,Qa]
 obtain⟨rfl,rfl⟩:=hR;apply XF hb;exact⟨_,_,rfl,rfl,rfl,rfl,rfl,rfl,rfl,rfl,rfl,rfl⟩
def YN(l:List Ev):Nat->Int->List Pk
 | 0=>λ_=>[]
 | i+1=>jd (YN l i) (l.getD i default)
def QdU(l:List Ev):Nat->Ev
 | 0=>OG
 | i+1=>l.getD i default
def pz(l:List Ev):Nat->Int
 | 0=>0
 | i+1=>if (l.getD i default).J4 then pz l i else (l.getD i default).done
def S9(x:Cf)(W:Int->List Pk)(last:Ev)(done:Int)(e:Ev):Nat->Bool
 | 0=>decide (e.op<0\/e.op<last.op\/e.cls<1)
 | 1=>decide (e.at_<last.at_\/4611686018427387904<e.at_)
 | 2=>Cd e.pk x.JK != 0
 | 3=>e.J4&&(e.done != 0 || e.real)
 | 4=>!e.J4&&(W e.cls).length==0
 | 5=>!e.J4&&!OE ((W e.cls).getD 0 default) e.pk
 | 6=>!e.J4&&decide (e.at_<done)
 | _=>!e.J4&&e.done != IntKind.u64.wrap (e.at_+DQ e.pk x.t)
def Xc(x:Cf)(l:List Ev)(i k:Nat):Bool:=S9 x (YN l i) (QdU l i) (pz l i) (l.getD i default) k
def QdV:Nat->Int
 | 0=>1
 | 1=>27
 | 2=>26
 | 3=>4
 | 4=>6
 | 5=>8
 | 6=>24
 | _=>20
def je{h t:List Ob}{l:Nat}{o:Ob}(e:h[l]? = some o):((h++t).map Ob.ro)[l]? = some o.ro:=Z3 (by rw[Qx (Qc e)];exact e)
def A5.ro{h t:List Ob}{d}{p}(s:A5 id h d p):A5 Ob.ro ((h++t).map Ob.ro) d p:=by
 rcases s with h|⟨lo,g,off,row,h1,h2,h3⟩
 ·exact .inl h
 ·exact .inr ⟨lo,g,off,row,h1,je h2,h3⟩
def A5.app{h t}{d}{p}(s:A5 id h d p):A5 id (h++t) d p:=by
 rcases s with h|⟨lo,g,off,row,h1,h2,h3⟩
 ·exact .inl h
 ·exact .inr ⟨lo,g,off,row,h1,by rw[Qx (Qc h2)];exact h2,h3⟩
structure Ma (x:Cf) (l:List Ev) (row:Nat->List D) (i:Nat) (H:List Ob):Prop where
 f:H[1]? = some ⟨.one,0,2,1,λ_=>[Qb 0,Qb 0]⟩
 a:H[4]? = some ⟨.one,0,17,1,λ_=>Hr x 3 (QdU l i) (pz l i) (.ref 10 0 0 8)⟩
 m:∃c es,H[3]? = some (QS .i64 c es)/\L6 H es (YN l i)
 b:H[5]? = some ⟨.one,0,1,1,λ_=>[.ptr 4 0 0 0]⟩
 p5:H[6]? = some (L7 129 0 5)
 p6:H[7]? = some (L7 130 0 5)
 p7:H[8]? = some (L7 131 0 5)
 p8:H[9]? = some (L7 132 1 4)
 q:H[10]? = some ⟨.arr,0,2,8,row⟩
def Ma.app{x}{l}{row}{i}{H t}(I:Ma x l row i H):Ma x l row i (H++t):=by
 have up:∀{l:Nat} {o:Ob},H[l]? = some o->(H++t)[l]? = some o:=λe=>by rw[Qx (Qc e)];exact e
 obtain⟨c,es,h1,h2⟩:=I.m;exact⟨up I.f,up I.a,⟨c,es,up h1,λk=>(h2.at_ k).app,h2.sep⟩,up I.b,up I.p5,up I.p6,up I.p7,up I.p8,up I.q⟩
def Clean(x:Cf)(l:List Ev)(i:Nat):Prop:=∀j,j<i->∀k,k<8->Xc x l j k=false
def QdW(x:Cf)(l:List Ev)(d:D):Prop:=(∃i k,i<l.length/\k<8/\Clean x l i/\(∀k',k'<k->Xc x l i k'=false)/\Xc x l i k=true/\d=.agg [Qb i,Qb (QdV k)])\/(Clean x l l.length/\d=.agg [Qb 0,Qb 0])
section
variable {x:Cf}{l:List Ev}{row:Nat->List D}{i:Nat}{H t:List Ob}(I:Ma x l row i H)
include I
theorem QGV{e:Ev}(he:e=l.getD i default):QV prog 124 (H++t) [.agg e.cells,.ptr 5 0 0 0] (λd=>d=QJ (Xc x l i 0)):=by subst he;exact QGF _ 5 4 3 x _ _ _ _ (je I.b) (je I.a)
theorem QGW{e:Ev}(he:e=l.getD i default):QV prog 125 (H++t) [.agg e.cells,.ptr 5 0 0 0] (λd=>d=QJ (Xc x l i 1)):=by subst he;exact QGG _ 5 4 3 x _ _ _ _ (je I.b) (je I.a)
theorem QGX{e:Ev}(he:e=l.getD i default):QV prog 126 (H++t) [.agg e.cells,.ptr 5 0 0 0] (λd=>d=QJ (Xc x l i 2)):=by subst he;exact QGH _ 5 4 3 x _ _ _ _ (je I.b) (je I.a)
omit I in
theorem QGY{e:Ev}(he:e=l.getD i default):QV prog 128 (H++t) [.agg e.cells] (λd=>d=QJ (Xc x l i 3)):=by subst he;exact QGI _ _
theorem QGZ{e:Ev}(he:e=l.getD i default):QV prog 123 (H++t) [.agg e.cells,.ptr 6 0 0 0] (λd=>d=QJ (Xc x l i 4)):=by
 subst he;obtain⟨c,es,hm,hW⟩:=I.m;exact QdS _ 6 _ 129 5 _ Qu2 (je I.p5) λ_ h' up=>QGL h' 5 4 3 x _ _ _ _ (up _ _ (je I.b)) (up _ _ (je I.a)) (up _ _ (je hm)) (p:=YN l i (l.getD i default).cls) (by
  rcases (hW.at_ (l.getD i default).cls).ro (t:=t) with h|⟨lo,g,off,row,h1,h2,h3⟩
  ·exact .inl h
  ·exact .inr ⟨lo,g,off,row,h1,up _ _ h2,h3⟩)
theorem QG0{e:Ev}(he:e=l.getD i default)(hq:Xc x l i 4=false):QV prog 123 (H++t) [.agg e.cells,.ptr 7 0 0 0] (λd=>d=QJ (Xc x l i 5)):=by
 subst he;obtain⟨c,es,hm,hW⟩:=I.m;exact QdS _ 7 _ 130 5 _ Qu3 (je I.p6) λXi h' up=>QGM h' 5 4 3 x _ _ _ _ (up _ _ (je I.b)) (up _ _ (je I.a)) (up _ _ (je hm)) (p:=YN l i (l.getD i default).cls) (by
  rcases (hW.at_ (l.getD i default).cls).ro (t:=t) with h|⟨lo,g,off,row,h1,h2,h3⟩
  ·exact .inl h
  ·exact .inr ⟨lo,g,off,row,h1,up _ _ h2,h3⟩) (λh=>by
   simp only[Xc,S9,Xi,h]at hq;simp at hq)
theorem QG1{e:Ev}(he:e=l.getD i default):QV prog 123 (H++t) [.agg e.cells,.ptr 8 0 0 0] (λd=>d=QJ (Xc x l i 6)):=by
 subst he;exact QdS _ 8 _ 131 5 _ Qu4 (je I.p7) λ_ h' up=>QGJ h' 5 4 3 x _ _ _ _ (up _ _ (je I.b)) (up _ _ (je I.a))
theorem QG2{e:Ev}(he:e=l.getD i default):QV prog 123 (H++t) [.agg e.cells,.ptr 9 0 0 0] (λd=>d=QJ (Xc x l i 7)):=by
 subst he;exact QGN _ 9 _ 132 4 _ Qu5 (je I.p8) λ_ h' up=>QGK h' 4 3 x _ _ _ _ (up _ _ (je I.a))
end
def QdX(l:List Ev):∀(i:Nat) (k:Int),(YN l i k).length<=i
 | 0,_=>QB _
 | i+1,k=>by
  have:=QdX l i k;simp only[YN,jd];split
  ·split
   ·simp;omega
   ·simp;omega
  ·omega
def QG3(x:Cf)(l:List Ev)(hl:l.length<100000000):Q4 prog 29 [.agg x.cells,Kv l] (λd h=>h=[]/\if 1<=x.t/\x.t<=65536/\1<=x.JK/\x.JK<=16384 then QdW x l d else d=.agg [Qb 0,Qb 7]):=by
 refine ZA 0 Qi 200 func29 rfl ntmps29 results29 rfl λbase w hb=>?_;simp only[go_sem];by_cases hx:1<=x.t/\x.t<=65536/\1<=x.JK/\x.JK<=16384
 ·obtain⟨h1,h2,h3,h4⟩:=id hx;simp only[Qf hx];simp only[go_sem,QN (show ¬ x.t<1 by omega),QN (show ¬ (65536:Int)<x.t by omega),QN (show ¬ x.JK<1 by omega),QN (show ¬ (16384:Int)<x.JK by omega)];refine qZ hb QuH (QGU _ x) λd h hR=>?_;obtain⟨rfl,g,row,rfl,N⟩:=hR;apply QC hb;have I0:Ma x l row 0 (⟨.one,0,2,1,λ_=>x.cells⟩::⟨.one,0,2,1,λ_=>[Qb 0,Qb 0]⟩::g):=by
   have hg:=N.g;subst hg;exact⟨rfl,rfl,⟨0,[],rfl,⟨λk=>.inl ⟨rfl,rfl⟩,λk k' lo g off n g' jg n' h=>by cases h⟩⟩,rfl,rfl,rfl,rfl,rfl,rfl⟩
  refine Jg (λi s=>∃H,Ma x l row i H/\Clean x l i/\s=⟨[(4,.ptr 1 0 0 0),(5,.ptr 4 0 0 0),(31,Kv l),(32,Qb l.length),(33,Qb i)],H⟩) l.length QQ ⟨_,I0,λj hj=>absurd hj (Vw j),rfl⟩ ?_;have r0:=N.r0;have r1:=N.r1;have r2:=N.r2;have r3:=N.r3;have r4:=N.r4;have r5:=N.r5;have r6:=N.r6;have r7:=N.r7;simp only[go_sem,dM]at r0 r1 r2 r3 r4 r5 r6 r7;clear I0 N g;rintro i s hi ⟨H,I,ZP,rfl⟩;apply QC hb;first|refine YU hi (λQj=>?_) (λQj=>?_)|refine qu hi (λQj=>?_) (λQj=>?_)
  ·obtain⟨e,he⟩:∃e,e=l.getD i default:=⟨_,rfl⟩;have a_l:=Qc I.a;simp only[go_sem,Qa,Qj,<- he,I.a,I.q,a_l];obtain⟨n,hn⟩:∃n,n=H.length:=⟨_,rfl⟩;rw[<- hn];refine Jg (λk s=>∃H':List Ob,Ma x l row i H'/\H'[n]? = some ⟨.one,0,12,1,λ_=>e.cells⟩/\(∀k',k'<k->Xc x l i k'=false)/\s=⟨[(4,.ptr 1 0 0 0),(5,.ptr 4 0 0 0),(31,Kv l),(32,Qb l.length),(33,Qb i),(6,Qb i),(7,.ptr n 0 0 0),(41,.ref 10 0 0 8),(42,Qb 8),(43,Qb k)],H'⟩) 8 QQ ⟨_,I.app,by rw[Kx hn.symm];rfl,λk' h=>absurd h (Vw k'),rfl⟩ ?_;clear I a_l hn H;rintro k s hk ⟨H,I,jJ,Jy,rfl⟩;have a_l:=Qc I.a;have FD:=Qc I.f;have Mb:=Qc I.q;have ku:=Qc jJ;apply QC hb;by_cases N9:k<8
   ·have hk9:((k:Int)<8):=by omega
    simp only[go_sem,Qa,hk9];have found:Xc x l i k=true->QdW x l (.agg [Qb i,Qb (QdV k)]):=λh=>.inl ⟨i,k,Qj,N9,ZP,Jy,h,rfl⟩;have Mc:Xc x l i k=false->∀k',k'<k+1->Xc x l i k'=false:=λh k' ZE=>by
     rcases qc.1 ZE with h1|rfl
     ·exact Jy k' h1
     ·exact h
    rcases (show k=0\/k=1\/k=2\/k=3\/k=4\/k=5\/k=6\/k=7 by omega) with rfl|rfl|rfl|rfl|rfl|rfl|rfl|rfl
    ·simp only[go_sem,Qa,I.q,Mb,r0,jJ,ku];refine ZN hb QuY (QGV I he) λd hR=>?_;subst hR;apply QC hb;cases hq:Xc x l i 0 with
     | true=>
      simp only[go_sem,Qa,I.f,FD,Qs];exact found hq
     | false=>
      simp only[go_sem,Qa];exact⟨_,Qp.frame (by simp only[go_sem,show IntKind.i64.wrap 1=1 from by decide]),_,I.app,by rw[Qx ku];exact jJ,Mc hq,rfl⟩
    ·simp only[go_sem,Qa,I.q,Mb,r1,jJ,ku];refine ZN hb QuZ (QGW I he) λd hR=>?_;subst hR;apply QC hb;cases hq:Xc x l i 1 with
     | true=>
      simp only[go_sem,Qa,I.f,FD,Qs];exact found hq
     | false=>
      simp only[go_sem,Qa];exact⟨_,Qp.frame (by simp only[go_sem,show IntKind.i64.wrap 2=2 from by decide]),_,I.app,by rw[Qx ku];exact jJ,Mc hq,rfl⟩
    ·simp only[go_sem,Qa,I.q,Mb,r2,jJ,ku];refine ZN hb Qu0 (QGX I he) λd hR=>?_;subst hR;apply QC hb;cases hq:Xc x l i 2 with
     | true=>
      simp only[go_sem,Qa,I.f,FD,Qs];exact found hq
     | false=>
      simp only[go_sem,Qa];exact⟨_,Qp.frame (by simp only[go_sem,show IntKind.i64.wrap 3=3 from by decide]),_,I.app,by rw[Qx ku];exact jJ,Mc hq,rfl⟩
    ·simp only[go_sem,Qa,I.q,Mb,r3,jJ,ku];refine ZN hb Qu1 (QGY (x:=x) he) λd hR=>?_;subst hR;apply QC hb;cases hq:Xc x l i 3 with
     | true=>
      simp only[go_sem,Qa,I.f,FD,Qs];exact found hq
     | false=>
      simp only[go_sem,Qa];exact⟨_,Qp.frame (by simp only[go_sem,show IntKind.i64.wrap 4=4 from by decide]),_,I.app,by rw[Qx ku];exact jJ,Mc hq,rfl⟩
    ·simp only[go_sem,Qa,I.q,Mb,r4,jJ,ku];refine ZN hb iV (QGZ I he) λd hR=>?_;subst hR;apply QC hb;cases hq:Xc x l i 4 with
     | true=>
      simp only[go_sem,Qa,I.f,FD,Qs];exact found hq
     | false=>
      simp only[go_sem,Qa];exact⟨_,Qp.frame (by simp only[go_sem,show IntKind.i64.wrap 5=5 from by decide]),_,I.app,by rw[Qx ku];exact jJ,Mc hq,rfl⟩
    ·simp only[go_sem,Qa,I.q,Mb,r5,jJ,ku];refine ZN hb iV (QG0 I he (Jy 4 (by omega))) λd hR=>?_;subst hR;apply QC hb;cases hq:Xc x l i 5 with
     | true=>
      simp only[go_sem,Qa,I.f,FD,Qs];exact found hq
     | false=>
      simp only[go_sem,Qa];exact⟨_,Qp.frame (by simp only[go_sem,show IntKind.i64.wrap 6=6 from by decide]),_,I.app,by rw[Qx ku];exact jJ,Mc hq,rfl⟩
    ·simp only[go_sem,Qa,I.q,Mb,r6,jJ,ku];refine ZN hb iV (QG1 I he) λd hR=>?_;subst hR;apply QC hb;cases hq:Xc x l i 6 with
     | true=>
      simp only[go_sem,Qa,I.f,FD,Qs];exact found hq
     | false=>
      simp only[go_sem,Qa];exact⟨_,Qp.frame (by simp only[go_sem,show IntKind.i64.wrap 7=7 from by decide]),_,I.app,by rw[Qx ku];exact jJ,Mc hq,rfl⟩
    ·simp only[go_sem,Qa,I.q,Mb,r7,jJ,ku];refine ZN hb iV (QG2 I he) λd hR=>?_;subst hR;apply QC hb;cases hq:Xc x l i 7 with
     | true=>
      simp only[go_sem,Qa,I.f,FD,Qs];exact found hq
     | false=>
      simp only[go_sem,Qa];exact⟨_,Qp.frame (by simp only[go_sem,show IntKind.i64.wrap 8=8 from by decide]),_,I.app,by rw[Qx ku];exact jJ,Mc hq,rfl⟩
   ·obtain rfl:k=8:=by omega
    simp only[go_sem,Qa,jJ,ku];obtain⟨c,es,hm,hW⟩:=I.m;refine Qe hb ?_;simp only[go_sem,Qa,jJ,ku];have Dt:e.J4=false->YN l i e.cls≠[]:=λXi h=>by
     have:=Jy 4 (by omega);subst he;simp only[Xc,S9,Xi,h]at this;simp at this
    refine qZ hb QuI (QGR _ 4 3 x _ _ _ e es c (YN l i) I.a hm hW Dt (by have:=QdX l i e.cls;omega)) λd h hR=>?_;obtain⟨Ta,Tm,Ts⟩:=hR;apply QC hb;obtain⟨c',es',m1,m2⟩:=Tm;have sm:=Ts;have I2:Ma x l row (i+1) h:=by
     subst he;exact⟨sm _ _ I.f rfl (by decide) (by decide),Ta,⟨c',es',m1,m2⟩,sm _ _ I.b rfl (by decide) (by decide),sm _ _ I.p5 rfl (by show (1:Nat)≠17;decide) (by show (1:Nat)≠6;decide),sm _ _ I.p6 rfl (by show (1:Nat)≠17;decide) (by show (1:Nat)≠6;decide),sm _ _ I.p7 rfl (by show (1:Nat)≠17;decide) (by show (1:Nat)≠6;decide),sm _ _ I.p8 rfl (by show (1:Nat)≠17;decide) (by show (1:Nat)≠6;decide),sm _ _ I.q rfl (by show (2:Nat)≠17;decide) (by show (2:Nat)≠6;decide)⟩
    refine⟨Qj,_,Qp.frame (by simp only[go_sem,JX (show i<4611686018427387904 by omega)]),h,I2,λj hj k hk=>?_,rfl⟩;rcases qc.1 hj with h5|rfl
    ·exact ZP j h5 k hk
    ·exact Jy k hk
  ·have Ju:i=l.length:=by omega
   subst Ju;have FD:=Qc I.f;simp only[go_sem,Qa,YP];refine Qe hb ?_;simp only[go_sem,Qa,I.f,FD,Qs];exact .inr ⟨ZP,rfl⟩
 ·simp only[Qd hx]
  repeat' (first|((first|refine zE (λh=>?_) (λh=>?_)|refine zF (λh=>?_) (λh=>?_)|refine zG (λh=>?_) (λh=>?_)|refine XS (λh=>?_) (λh=>?_)|refine zH (λh=>?_) (λh=>?_)|refine zI (λh=>?_) (λh=>?_)|refine zJ (λh=>?_) (λh=>?_)|refine zD (λh=>?_) (λh=>?_))<;>(try simp only[go_sem]))|(refine And.intro (by omega) ?_;try simp only[go_sem]))
  all_goals first|(exfalso;omega)|exact⟨rfl,rfl⟩
theorem dN(a:Pk):Bu 1 a.cells=true:=rfl
def QG5{n:Nat}(h:0<n):((n:Int) - 1).toNat=n - 1:=by omega
def QoC(l:List Ev)(c)(hl:l.length<100000000):Q4 prog 27 [Kv l,Qb c] (au 6 Pk.cells (YN l l.length c)):=by
 refine ZA 1 Qi 200 func27 rfl ntmps27 results27 rfl λbase w hb=>?_;simp only[go_sem];refine Jg (λk s=>∃g off row,q5 Pk.cells (YN l k c) off row/\s=⟨[(1,Qb c),(5,.ref 0 g off (YN l k c).length),(8,Kv l),(9,Qb l.length),(10,Qb k)],[⟨.arr,g,6,off+(YN l k c).length,row⟩]⟩) l.length
  (s0:=⟨[(1,Qb c),(5,.ref 0 0 0 0),(8,Kv l),(9,Qb l.length),(10,Qb 0)],[⟨.arr,0,6,0,λ_=>[]⟩]⟩)
  (Qp.trans (Qp.Bh 5 6 (λi=>[]) rfl) QQ) ⟨0,0,λ_=>[],.nil,rfl⟩ ?_
 rintro k s hk ⟨g,off,row,hr,rfl⟩;have rJ:=QdX l k c;have QT:=JX (show k<4611686018427387904 by omega);apply Zi hb;first|refine YU hk (λQj=>?_) (λQj=>?_)|refine qu hk (λQj=>?_) (λQj=>?_)
 ·obtain⟨e,he⟩:∃e,e=l.getD k default:=⟨_,rfl⟩;obtain⟨L,hL⟩:∃L,L=YN l k c:=⟨_,rfl⟩;have ZF:YN l (k+1) c=if c=e.cls then (if e.J4 then L++[e.pk] else L.tail) else L:=by rw[hL,he];rfl
  rw[<- hL]at hr rJ ⊢;simp only[go_sem,Qj,<- he];by_cases hc:e.cls=c
  ·rw[Qf hc.symm]at ZF;simp only[go_sem,tP hc];cases hi:e.J4 with
   | true=>
    rw[hi,Qf rfl]at ZF;have wz:L.length<=4294967295:=by omega
    have BZ:L.length+1<=4294967295:=by omega
    have Jp:q5 Pk.cells (YN l (k+1) c) 0 (J1 L.length off row λ_=>e.pk.cells):=by rw[ZF];exact hr.app e.pk rfl
    have Jx:(YN l (k+1) c).length=L.length+1:=by rw[ZF];simp
    simp only[go_sem,wz,BZ];refine⟨Qj,_,Qp.to 1 ⟨?_,by simp only[go_sem],?_,?_⟩,g+1,0,_,Jp,rfl⟩
    ·simp only[go_sem,QT,Jx]
    ·exact⟨Jp.upto dN,trivial⟩
    ·simp only[go_sem,Jx,Ev.pk]
   | false=>
    rw[hi,Qd (by simp)]at ZF;simp only[go_sem];by_cases h0:L.length=0
    ·have QG6:L=[]:=Mj.1 h0;subst QG6;simp only[List.tail_nil]at ZF;have Jp:q5 Pk.cells (YN l (k+1) c) off row:=by rw[ZF];exact hr
     simp only[go_sem,YP];refine⟨Qj,_,Qp.to 1 ⟨?_,by simp only[go_sem],?_,?_⟩,g,off,row,Jp,rfl⟩
     ·simp only[go_sem,QT,ZF]
     ·exact⟨Jp.upto dN,trivial⟩
     ·simp only[go_sem,ZF]
    ·have qk:0<L.length:=by omega
     have Yz:(0:Int)<(L.length:Int):=by omega
     have Jx:(YN l (k+1) c).length=L.length - 1:=by rw[ZF];simp
     have Jp:q5 Pk.cells (YN l (k+1) c) (off+1) row:=by rw[ZF];exact hr.tail qk
     have hof:off+1+(L.length - 1)=off+L.length:=by omega
     simp only[go_sem,Q5 Yz,QG5 qk];refine⟨by omega,Qj,_,Qp.to 1 ⟨?_,by simp only[go_sem],?_,?_⟩,g,off+1,row,Jp,rfl⟩
     ·simp only[go_sem,QT,Jx]
     ·exact⟨Jp.upto dN,trivial⟩
     ·simp only[go_sem,Jx,hof]
  ·rw[Qd (λh=>hc h.symm)]at ZF;have Jp:q5 Pk.cells (YN l (k+1) c) off row:=by rw[ZF];exact hr
   simp only[go_sem,Qip hc];refine⟨Qj,_,Qp.to 1 ⟨?_,by simp only[go_sem],?_,?_⟩,g,off,row,Jp,rfl⟩
   ·simp only[go_sem,QT,ZF]
   ·exact⟨Jp.upto dN,trivial⟩
   ·simp only[go_sem,ZF]
 ·have Qj:k=l.length:=by omega
  subst Qj;simp only[go_sem,YP];apply Zi hb;exact⟨hr.upto dN,g,off,row,rfl,rfl,hr⟩
def QG8(l:List Pk):D:=.imm 6 l.length (Pk.rows l)
attribute [go_sem] QG8
end Go.Fg.X
namespace Go.Fg.X
open Go.Proofs Go.Fg
end Go.Fg.X
namespace Go.Fg.X
open Go.Proofs Go.Fg
open Go.Proofs.Tryz
def Td(x:Cf)(l:List Ev)(i:Nat):Option Nat:=(List.range 8).find? (Xc x l i)
def QoD(x:Cf):Prop:=1<=x.t/\x.t<=65536/\1<=x.JK/\x.JK<=16384
def pA(x:Cf)(l:List Ev):Option Nat:=(List.range l.length).find? λi=>(Td x l i).isSome
def DZ(x:Cf)(l:List Ev):Int × Int:=if 1<=x.t/\x.t<=65536/\1<=x.JK/\x.JK<=16384 then (match pA x l with
 | some i=>(i,match Td x l i with
  | some k=>QdV k
  | none=>0)
 | none=>(0,0)) else (0,7)
def QoE{n m:Nat}{p}(h1:m<n)(h2:p m=true)(h3:∀k,k<m->p k=false):(List.range n).find? p=some m:=by
 rw[List.find?_range_eq_some];exact⟨h2,by simpa using h1,λj hj=>by simpa using h3 j hj⟩
def dO{n:Nat}{p}(h:∀k,k<n->p k=false):(List.range n).find? p=none:=by
 rw[List.find?_range_eq_none];intro i hi;simpa using h i hi
def QG9{x}{l:List Ev}{d}(h:QdW x l d)(hx:QoD x):d=.agg [Qb (DZ x l).1,Qb (DZ x l).2]:=by
 have qm:1<=x.t/\x.t<=65536/\1<=x.JK/\x.JK<=16384:=hx;unfold DZ;rw[Qf qm];rcases h with ⟨i,k,h1,h2,h3,h4,h5,rfl⟩|⟨h1,rfl⟩
 ·have e1:Td x l i=some k:=QoE h2 h5 h4;have e2:pA x l=some i:=QoE h1 (by rw[e1];rfl) λj hj=>by
   rw[show Td x l j=none from dO (h3 j hj)];rfl
  simp only[e2,e1]
 ·have e2:pA x l=none:=dO λj hj=>by
   rw[show Td x l j=none from dO (h1 j hj)];rfl
  rw[e2]
def pB(x:Cf)(l:List Ev)(hl:l.length<100000000):Q4 prog 29 [.agg x.cells,Kv l] (Qn (.agg [Qb (DZ x l).1,Qb (DZ x l).2])):=
 (QG3 x l hl).mono λd h ⟨h1,h2⟩=>by
  refine⟨?_,h1⟩;split at h2
  ·exact QG9 h2 ‹_›
  ·rename_i hx;rw[h2];unfold DZ;rw[Qd hx]
def lA:Ev:=⟨0,true,false,5,0,3,7,100,0,0,0,0⟩
def lB:Ev:=⟨0,false,false,5,105,3,7,100,0,0,0,0⟩
def lC:Ev:=⟨0,false,false,5,104,3,7,100,0,0,0,0⟩
def lX:Cf:=⟨1,100⟩
def v1:DZ lX [lA,lB]=(0,0):=by decide
def v2:DZ lX [lA,lC]=(1,20):=by decide
def v3:DZ lX [lB]=(0,6):=by decide
def QHa:Q4 prog 24 [] (Qn (QJ true)):=by
 have c1:=pB lX [lA,lB] (by decide);have c2:=pB lX [lA,lC] (by decide);have c3:=pB lX [lB] (by decide);have c4:=QoC [lA,lA,lB] 3 (by decide);rw[v1]at c1;rw[v2]at c2;rw[v3]at c3;refine ZA 0 Qi 200 func24 rfl ntmps24 results24 rfl λbase w hb=>?_;simp only[go_sem];refine ZW hb iM rfl ?_ c1 (Qn.flat rfl) rfl λd h hR=>?_
 ·simp only[go_sem]
  repeat' first|apply And.intro|rfl|(intro i hi;obtain rfl|rfl:i=0\/i=1:=by omega)
 obtain⟨rfl,rfl⟩:=hR;apply Zi hb;refine ZW hb iM rfl ?_ c2 (Qn.flat rfl) rfl λd h hR=>?_
 ·simp only[go_sem]
  repeat' first|apply And.intro|rfl|(intro i hi;obtain rfl|rfl:i=0\/i=1:=by omega)
 obtain⟨rfl,rfl⟩:=hR;apply Zi hb;refine ZW hb iM rfl ?_ c3 (Qn.flat rfl) rfl λd h hR=>?_
 ·simp only[go_sem]
  repeat' first|apply And.intro|rfl|(intro i hi;obtain rfl:i=0:=by omega)
 obtain⟨rfl,rfl⟩:=hR;apply Zi hb;refine ZW hb Qho rfl ?_ c4 (au.flat λa=>rfl) rfl λd h hR=>?_
 ·simp only[go_sem]
  repeat' first|apply And.intro|rfl|(intro i hi;obtain rfl|rfl|rfl:i=0\/i=1\/i=2:=by omega)
 obtain⟨g,off,row,rfl,rfl,hr⟩:=hR;have wk:(YN [lA,lA,lB] 3 3).length=1:=by decide
 apply Zi hb;rw[wk];rfl
def Hs(d:Int)(e:Ev):Int:=if e.J4=true then d else e.done
def Ht(x:Cf):(Int->List Pk)->Ev->Int->List Ev->Prop
 | _,_,_,[]=>True
 | W,a,d,e::l=>(∀k,k<8->S9 x W a d e k=false)/\Ht x (jd W e) e (Hs d e) l
def QoF(x):∀(l m:List Ev) (W:Int->List Pk) (a:Ev) (d:Int),Ht x W a d l->Ht x (l.foldl jd W) (l.foldl (λ_ e=>e) a) (l.foldl Hs d) m->Ht x W a d (l++m)
 | [],m,W,a,d,_,h=>h
 | e::l,m,W,a,d,h1,h2=>⟨h1.1,QoF x l m _ _ _ h1.2 h2⟩
def QdZ(l:List Ev):∀k,k<=l.length->YN l k=(l.take k).foldl jd (λ_=>[])/\QdU l k=(l.take k).foldl (λ_ e=>e) OG/\pz l k=(l.take k).foldl Hs 0
 | 0,_=>⟨rfl,rfl,rfl⟩
 | k+1,h=>by
  obtain⟨h1,h2,h3⟩:=QdZ l k (by omega);rw[getD_take _ default _ (by omega),kz,kz,kz,<- h1,<- h3];exact⟨rfl,rfl,rfl⟩
def QoG(x):∀(l:List Ev) (W:Int->List Pk) (a:Ev) (d:Int),Ht x W a d l->∀i,i<l.length->∀k,k<8->S9 x ((l.take i).foldl jd W) ((l.take i).foldl (λ_ e=>e) a) ((l.take i).foldl Hs d) (l.getD i default) k=false
 | [],_,_,_,_,i,hi,_,_=>absurd hi (Vw i)
 | e::l,W,a,d,h,0,_,k,hk=>h.1 k hk
 | e::l,W,a,d,h,i+1,hi,k,hk=>QoG x l _ _ _ h.2 i (by simpa using hi) k hk
def QHb{x}{l:List Ev}(h:Ht x (λ_=>[]) OG 0 l){i}(hi:i<l.length){k}(hk:k<8):Xc x l i k=false:=by
 obtain⟨h1,h2,h3⟩:=QdZ l i (by omega);unfold Xc;rw[h1,h2,h3];exact QoG x l _ _ _ h i hi k hk
structure Hu (x:Cf) (W:Int->List Pk) (a:Ev) (d:Int) (S:Zf):Prop where
 w:∀j,W j=Zn S.M j
 d:d=S.JI
 at_:a.at_<=S.Qh
 o0:a.op<=S.ops
 lk:S.M.lk=x
structure FE (x:Cf) (W:Int->List Pk) (a:Ev) (d:Int) (l:List Ev) (S':Zf):Prop where
 ok:Ht x W a d l
 st:Hu x (l.foldl jd W) (l.foldl (λ_ e=>e) a) (l.foldl Hs d) S'
def QHc(p:Pk):OE p p=true:=(QGE p p).2 rfl
def QoH{x:Cf}(K:XK x){p:Pk}(h:1<=p.len/\p.len<=x.JK):Cd p x.JK=0:=by
 have:=K.l1;have:=K.l2;unfold Cd;rw[Qd (by omega),Qd (by omega)]
def QHd{x:Cf}(K:XK x){p:Pk}(h:1<=p.len/\p.len<=x.JK):DQ p x.t=YJ x p.len:=by
 have k1:=K.t1;have k2:=K.t2;have k3:=K.l2;have h1:=Of K h;have ht:((YJ x p.len:Nat):Int)=p.len*x.t:=by
  unfold YJ;rw[OM,Ea (by omega),Ea (by omega)]
 unfold DQ;rw[Qf (by omega),<- ht,IntKind.wrap_u64];omega
def QoI{x}{S:Zf}(T:ZV S){W}{a:Ev}{d}(A:Hu x W a d S){op}(ho:op<=S.ops)(dP:a.op<=op):FE x W a d (Z2 S op S.Qh).2 (Z2 S op S.Qh).1/\(∀e∈(Z2 S op S.Qh).2,e.op=op):=by
 refine⟨?_,Qdk S op S.Qh⟩;unfold Z2;split
 ·exact⟨trivial,A⟩
 ·rename_i hu;split
  ·rename_i h;have hl:=T.take_len h;obtain⟨y,L,hq,hk⟩:=oh T.I T.V h;have hK:XK x:=A.lk▸T.K;rw[A.lk]at hl;have ht:=Of hK hl;have ZP:=T.cl;have zC:=T.un;have qk:=QoB T.I (j:=WL S.M S.Qh) (by rw[hq];exact List.cons_ne_nil _ _);have hw:=A.w (WL S.M S.Qh);rw[hq]at hw;rw[<- hk]at hw;have VN:=A.at_;have hd:=A.d;refine⟨⟨λk N9=>?_,trivial⟩,?_,?_,?_,?_,?_⟩
   ·have hW:W (WL S.M S.Qh)=Vf S.M S.Qh::L:=hw;match k,N9 with
    | 0,_=>exact QN (by show ¬((op:Int)<0\/(op:Int)<a.op\/WL S.M S.Qh<1);omega)
    | 1,_=>exact QN (by show ¬((S.Qh:Int)<a.at_\/4611686018427387904<(S.Qh:Int));omega)
    | 2,_=>show (Cd (Vf S.M S.Qh) x.JK != 0)=false;rw[QoH hK hl];rfl
    | 3,_=>rfl
    | 4,_=>show ((W (WL S.M S.Qh)).length==0)=false;rw[hW];rfl
    | 5,_=>show (!OE ((W (WL S.M S.Qh)).getD 0 default) (Vf S.M S.Qh))=false;rw[hW];show (!OE (Vf S.M S.Qh) (Vf S.M S.Qh))=false;rw[QHc];rfl
    | 6,_=>exact QN (by show ¬((S.Qh:Int)<d);omega)
    | 7,_=>
     show (((S.Qh+YJ S.M.lk (Vf S.M S.Qh).len:Nat):Int) != IntKind.u64.wrap ((S.Qh:Int)+DQ (Vf S.M S.Qh) x.t))=false;rw[QHd hK hl,A.lk,IntKind.wrap_u64];refine tP ?_;omega
    | n+8,h=>exact absurd h (by omega)
   ·intro j;show jd W (Hh op (Cc S.M S.Qh) S.Qh (S.Qh+YJ S.M.lk (Vf S.M S.Qh).len) (WL S.M S.Qh) (Vf S.M S.Qh)) j=Zn (takeN S.M S.Qh) j;rw[Hf];unfold jd;by_cases e:j=WL S.M S.Qh
    ·rw[Qf (show j=(Hh op (Cc S.M S.Qh) S.Qh (S.Qh+YJ S.M.lk (Vf S.M S.Qh).len) (WL S.M S.Qh) (Vf S.M S.Qh)).cls from e),Qf (show Xt S.M S.Qh=true/\WL S.M S.Qh=j from ⟨h,e.symm⟩),A.w j];rfl
    ·rw[Qd (show ¬j=(Hh op (Cc S.M S.Qh) S.Qh (S.Qh+YJ S.M.lk (Vf S.M S.Qh).len) (WL S.M S.Qh) (Vf S.M S.Qh)).cls from e),Qd (show ¬(Xt S.M S.Qh=true/\WL S.M S.Qh=j) from λh2=>e h2.2.symm)];exact A.w j
   ·rfl
   ·show ((S.Qh:Nat):Int)<=(S.Qh:Nat);omega
   ·show ((op:Nat):Int)<=(S.ops:Nat);omega
   ·exact(LH _ _).trans A.lk
  ·rename_i h;refine⟨trivial,⟨λj=>?_,A.d,A.at_,A.o0,(LH _ _).trans A.lk⟩⟩;show W j=Zn (takeN S.M S.Qh) j;rw[Hf,Qd λh2=>h h2.1];exact A.w j
def QHe{l:List Ev}{a:Ev}{op:Nat}(h:∀e∈l,e.op=op)(ha:a.op<=op):(l.foldl (λ_ e=>e) a).op<=op:=by
 induction l generalizing a with
 | nil=>exact ha
 | cons e l ih=>exact ih (λb hb=>h b (KI _ hb)) (Int.le_of_eq (h e Vn))
def FE.app{x}{W}{a}{d}{l m:List Ev}{S1 S2}(A:FE x W a d l S1)(B:FE x (l.foldl jd W) (l.foldl (λ_ e=>e) a) (l.foldl Hs d) m S2):FE x W a d (l++m) S2:=
 ⟨QoF x l m W a d A.ok B.ok,by rw[kz,kz,kz];exact B.st⟩
def QoJ{x}{op e}(he:e<=4611686018427387904):∀(n:Nat) {S:Zf} {W:Int->List Pk} {a:Ev} {d:Int},ZV S->S.Qh<=e->Hu x W a d S->op<=S.ops->a.op<=op->FE x W a d (Zz op e n S).2 (Zz op e n S).1
 | 0,S,W,a,d,T,h,A,_,_=>⟨trivial,⟨A.w,A.d,by have:=A.at_;show a.at_<=(e:Nat);omega,A.o0,A.lk⟩⟩
 | n+1,S,W,a,d,T,h,A,ho,dP=>by
  have VN:=A.at_;unfold Zz;split
  ·exact⟨trivial,⟨A.w,A.d,by show a.at_<=(e:Nat);omega,A.o0,A.lk⟩⟩
  ·rename_i h2;have XP:=SB S T.cl;have T1:=T.at_ XP (show QP S<=4611686018427387904 by omega);have A1:Hu x W a d { S with Qh:=QP S }:=⟨A.w,A.d,by show a.at_<=(QP S:Nat);omega,A.o0,A.lk⟩;obtain⟨P1,P2⟩:=QoI T1 A1 ho dP;have T2:=T1.Og op;have hc:=Oh { S with Qh:=QP S } op (QP S);have R:=QoJ he n T2 (by
    have:=hc.1;show (Z2 { S with Qh:=QP S } op (QP S)).1.Qh<=e;rw[this];show QP S<=e;omega) P1.st (by show op<=(Z2 { S with Qh:=QP S } op (QP S)).1.ops;rw[hc.2.1];exact ho) (QHe P2 dP)
   exact P1.app R
def QHf{x}{S}(T:ZV S){W}{a}{d}(A:Hu x W a d S){o:QZ}(ho:∀c∈o.changes,JH.Ok c):FE x W a d (QY S o).l (QY S o).S:=by
 have A0:Hu x W a d { S with ops:=S.ops+1 }:=⟨A.w,A.d,A.at_,by have:=A.o0;show a.op<=((S.ops+1:Nat):Int);omega,A.lk⟩;have dP:=A.o0;show FE x W a d (JA { S with ops:=S.ops+1 } S.ops o).l (JA { S with ops:=S.ops+1 } S.ops o).S;unfold JA;split
 ·exact⟨trivial,⟨λj=>(A.w j).trans (QGD T.I T.V _ ho j).symm,A0.d,A0.at_,A0.o0,(Sy _ _ _).trans A.lk⟩⟩
 ·split
  ·split
   ·exact⟨trivial,⟨A0.w,A0.d,A0.at_,A0.o0,A0.lk⟩⟩
   ·exact⟨trivial,A0⟩
  ·split
   ·unfold X3;split
    ·exact⟨trivial,A0⟩
    ·split
     ·rename_i hp;have hp:Y3 S.M S.Qh (Jj S.R (Zy o.Zw)) o.Zw=0:=hp;have T1:=(T.ops (S.ops+1)).put (Jj S.R (Zy o.Zw)) o.Zw;have T2:=T1.Jv (Jj S.R (Zy o.Zw)) S.Qh (by have:=T.cl;omega);have hl:=QmN hp;rw[A.lk]at hl;have hK:XK x:=A.lk▸T.K;have ZP:=T.cl;have VN:=A.at_;have hq:∀j,Zn (Jr S.M S.Qh (Jj S.R (Zy o.Zw)) o.Zw) j=if Jj S.R (Zy o.Zw)=j then Zn S.M j++[o.Zw] else Zn S.M j:=λj=>by
       rw[SA];by_cases e:Jj S.R (Zy o.Zw)=j
       ·rw[Qf ⟨hp,e⟩,Qf e]
       ·rw[Qd λh=>e h.2,Qd e]
      have qk:=QoB T1.I (j:=Jj S.R (Zy o.Zw)) (by show Zn (Jr S.M S.Qh (Jj S.R (Zy o.Zw)) o.Zw) _≠[];rw[hq,Qf rfl];simp);obtain⟨E,hE⟩:∃E,E=AW S.ops S.Qh (Jj S.R (Zy o.Zw)) o.Zw:=⟨_,rfl⟩;have A2:Hu x (jd W E) E d { { S with ops:=S.ops+1 } with M:=Jr S.M S.Qh (Jj S.R (Zy o.Zw)) o.Zw,st:=kg S.st (Jj S.R (Zy o.Zw)) S.Qh }:=by
       refine⟨λj=>?_,A.d,?_,?_,(LG _ _ _ _).trans A.lk⟩
       ·show jd W E j=Zn (Jr S.M S.Qh (Jj S.R (Zy o.Zw)) o.Zw) j;rw[hq];unfold jd;subst hE;by_cases e:Jj S.R (Zy o.Zw)=j
        ·rw[Qf e,Qf (show j=(AW S.ops S.Qh (Jj S.R (Zy o.Zw)) o.Zw).cls from e.symm),A.w j];rfl
        ·rw[Qd e,Qd (show ¬j=(AW S.ops S.Qh (Jj S.R (Zy o.Zw)) o.Zw).cls from λh=>e h.symm)];exact A.w j
       ·subst hE;show ((S.Qh:Nat):Int)<=(S.Qh:Nat);omega
       ·subst hE;show ((S.ops:Nat):Int)<=((S.ops+1:Nat):Int);omega
      obtain⟨P1,_⟩:=QoI T2 A2 (op:=S.ops) (Nat.le_succ _) (by subst hE;exact FJ _);have Xi:∀k,k<8->S9 x W a d E k=false:=λk N9=>by
       subst hE;match k,N9 with
       | 0,_=>exact QN (by show ¬((S.ops:Int)<0\/(S.ops:Int)<a.op\/Jj S.R (Zy o.Zw)<1);omega)
       | 1,_=>exact QN (by show ¬((S.Qh:Int)<a.at_\/4611686018427387904<(S.Qh:Int));omega)
       | 2,_=>show (Cd o.Zw x.JK != 0)=false;rw[QoH hK hl];rfl
       | 3,_=>rfl
       | 4,_=>rfl
       | 5,_=>rfl
       | 6,_=>rfl
       | 7,_=>rfl
       | n+8,h=>exact absurd h (by omega)
      have hd:Hs d E=d:=by subst hE;rfl
      rw[<- hE];refine⟨⟨Xi,?_⟩,?_⟩
      ·rw[hd];exact P1.ok
      ·show Hu x (List.foldl jd (jd W E) _) (List.foldl _ E _) (List.foldl Hs (Hs d E) _) _;rw[hd];exact P1.st
     ·rename_i hp;refine⟨trivial,⟨λj=>?_,A0.d,A0.at_,A0.o0,(LG _ _ _ _).trans A.lk⟩⟩;show W j=Zn (Jr S.M S.Qh (Jj S.R (Zy o.Zw)) o.Zw) j;rw[SA,Qd λh=>hp h.1];exact A.w j
   ·split
    ·unfold Yo;split
     ·exact⟨trivial,A0⟩
     ·rename_i Qc;have:=T.cl;have Qc:¬(4611686018427387904 - S.Qh<o.Jn.toNat):=Qc;exact QoJ (S:={ S with ops:=S.ops+1 }) (by show S.Qh+o.Jn.toNat<=_;omega) _ (T.ops _) (by show S.Qh<=S.Qh+_;omega) A0 (Nat.le_succ _) dP
    ·exact⟨trivial,A0⟩
def Qd0{x}:∀(l:List QZ) {S:Zf} {W:Int->List Pk} {a:Ev} {d:Int},ZV S->Hu x W a d S->(∀o∈l,QZ.Ok o)->FE x W a d (Zh S l).2.2 (Zh S l).1
 | [],S,W,a,d,T,A,hl=>⟨trivial,A⟩
 | o::l,S,W,a,d,T,A,hl=>by
  have ho:=(hl o Vn).2.1.2;have P1:=QHf T A ho;exact P1.app (Qd0 l (T.do ho) P1.st λb hb=>hl b (KI _ hb))
def QHg{c}(K:XK c)(l:List QZ)(hl:∀o∈l,QZ.Ok o):Ht c (λ_=>[]) OG 0 (Zh (S0 c) l).2.2:=
 (Qd0 l (ZV.SW K) ⟨λj=>rfl,rfl,FJ _,FJ _,rfl⟩ hl).ok
def QHh{x}(hx:QoD x){l}(h:Ht x (λ_=>[]) OG 0 l):DZ x l=(0,0):=by
 have e1:∀i,i<l.length->Td x l i=none:=λi hi=>dO λk hk=>QHb h hi hk;have e3:pA x l=none:=dO λj hj=>by rw[e1 j hj];rfl
 have qm:1<=x.t/\x.t<=65536/\1<=x.JK/\x.JK<=16384:=hx;unfold DZ;rw[Qf qm,e3]
def QHi(x:KW)(hx:∀a∈x.ops,QZ.Ok a):Q4 prog 5 [.agg x.cells] (Qn (QJ true)):=by
 refine Oo (R:=λd hh=>d=QJ true) _ rfl (λd hh h=>.inl (h▸kP _ _)) ?_;have hF:=SU x 200 (by decide);have hM:=Sx x.config;have vB:=QHa;refine Il Qi 200 func5 rfl ntmps5 results5 rfl λbase w hb=>?_;simp only[go_sem,Qa];cases YM:wN x 200 with
 | false=>
  rw[YM]at hF;refine Zu hb [] Yf rfl ?_ hF rfl λd h hR=>?_
  ·simp only[go_sem,Qa,Go.undef]
  obtain⟨rfl,rfl⟩:=hR;simp only[go_sem,Qa,Go.undef];refine Qe hb ?_;simp only[go_sem,Qa,Go.undef];refine Zu hb [] sO rfl ?_ vB rfl λd h hR=>?_
  ·simp only[go_sem,Qa]
  obtain⟨rfl,rfl⟩:=hR;simp only[go_sem,Qa];exact V9 hb
 | true=>
 rw[YM]at hF;cases Y7:Fu x.config with
 | false=>
  rw[Y7]at hM;refine Zu hb [] Yf rfl ?_ hF rfl λd h hR=>?_
  ·simp only[go_sem,Qa,Go.undef]
  obtain⟨rfl,rfl⟩:=hR;simp only[go_sem,Qa,Go.undef];refine Qe hb ?_;simp only[go_sem,Qa,Go.undef];refine Zu hb [] jr rfl ?_ hM rfl λd h hR=>?_
  ·simp only[go_sem,Qa,Go.undef]
  obtain⟨rfl,rfl⟩:=hR;simp only[go_sem,Qa,Go.undef];refine Qe hb ?_;simp only[go_sem,Qa,Go.undef];refine Zu hb [] sO rfl ?_ vB rfl λd h hR=>?_
  ·simp only[go_sem,Qa]
  obtain⟨rfl,rfl⟩:=hR;simp only[go_sem,Qa];exact V9 hb
 | true=>
 rw[Y7]at hM;have K:=Sz.1 Y7;obtain⟨hlen,Ja⟩:=S5 YM hx;refine Zu hb [] Yf rfl ?_ hF rfl λd h hR=>?_
 ·simp only[go_sem,Qa,Go.undef]
 obtain⟨rfl,rfl⟩:=hR;simp only[go_sem,Qa,Go.undef];refine Qe hb ?_;simp only[go_sem,Qa,Go.undef];refine Zu hb [] jr rfl ?_ hM rfl λd h hR=>?_
 ·simp only[go_sem,Qa,Go.undef]
 obtain⟨rfl,rfl⟩:=hR;simp only[go_sem,Qa,Go.undef];refine Qe hb ?_;simp only[go_sem,Qa,Go.undef];have hN:=cJ (own:=λ_=>.no) (tw:=λ_=>.my) (λ_ _=>rfl) [(⟨.one,0,3,1,λ_=>x.cells⟩:Ob)] K;refine qZ hb UC hN λd h1 hR=>?_;obtain⟨Ji,Kw,p,rfl,T1,K1⟩:=hR;have Kc:h1[0]? = some _:=K1.my 0 (by simp) rfl;have VU:=Qc Kc;refine Qe hb ?_;simp only[go_sem,Qa,Kc,VU];have LY:∀l,l<[(⟨.one,0,3,1,λ_=>x.cells⟩:Ob)].length->True->l<h1.length/\h1[l]? = [(⟨.one,0,3,1,λ_=>x.cells⟩:Ob)][l]?/\Ji l=.no/\Kw l=.my:=λl hl _=>by
  have:l=0:=by simpa using hl
  subst this;exact⟨VU,Kc,K1.s1 0 (by simp),K1.s2 0 (by simp)⟩
 have I0:=jH.start (ops:=x.ops) T1 LY (by have:=K1.len;simpa using this);obtain⟨lo,Zm⟩:∃lo,lo=h1.length:=⟨_,rfl⟩;refine qS (Qp.bY 5 12 (by simp only[go_sem])) ?_;simp only[go_sem];rw[<- Zm]at I0 ⊢;refine Jg (λk s=>∃g own tw H S E row,jH x.config x.ops p k lo g [(⟨.one,0,3,1,λ_=>x.cells⟩:Ob)] (λ_=>True) own tw H S E row/\s=⟨[(1,.ptr 0 0 0 0),(3,.ptr p 0 0 0),(4,Qb 0),(5,.ref lo g 0 E.length),(29,.imm 10 x.ops.length (QZ.rows x.ops)),(30,Qb x.ops.length),(31,Qb k)],H⟩) x.ops.length QQ ⟨_,_,_,_,_,_,_,I0,rfl⟩ ?_;clear I0 T1 K1 Kc VU hN LY Zm;rintro k _ hk ⟨g,own,tw,H,S,E,row,I,rfl⟩;by_cases Qj:k<x.ops.length
 ·have dk:=Q5 Qj;have QT:=JX (show k<4611686018427387904 by omega);obtain⟨o,ho⟩:∃o,o=x.ops.getD k default:=⟨_,rfl⟩;have YL:o∈x.ops:=by rw[ho];exact WI x.ops default k Qj
  obtain⟨⟨_,_,_,_,Tx⟩,hV,hC,jG⟩:=And.intro I.T (And.intro I.V (And.intro I.C I.jG));have Ch:=Fz ⟨_,_,_,_,Tx.YK [⟨.one,0,10,1,λ_=>o.cells⟩]⟩ hV hC (by omega) o (Ja o YL).1 (Ja o YL).2.c (Ja o YL).2.r;refine Qe hb ?_;simp only[go_sem,Qa,dk,Qj,<- ho];refine Jh hb EK Ch λd h2 hR=>?_;obtain⟨dl,JC,Vv,rfl,T2,s2,K2⟩:=hR;refine Ye Qi hb 8 ?_;simp only[go_sem,Qa];obtain⟨ko,h4,W3,W6,W4,ZH,yW,I4⟩:=I.step Qj (ho▸(Ja o YL).1.2.1.2) (ho▸T2) (ho▸s2) K2 [⟨.one,0,3,1,λ_=>(QY S o).r.cells⟩] (w0:=⟨w,[],[]⟩) rfl rfl (fr:=[(1,.ptr 0 0 0 0),(3,.ptr p 0 0 0),(4,Qb 0),(5,.ref lo g 0 E.length),(9,dl),(29,.imm 10 x.ops.length (QZ.rows x.ops)),(30,Qb x.ops.length),(31,Qb k)]) 9 rfl;rw[<- ho]at W4 ZH I4;refine kO (Qp.trans (Qp.frame (fr':=[(1,.ptr 0 0 0 0),(3,.ptr p 0 0 0),(4,Qb 0),(5,.ref lo g 0 E.length),(9,dl),(29,.imm 10 x.ops.length (QZ.rows x.ops)),(30,Qb x.ops.length),(31,Qb k)]) (by simp only[go_sem])) W4) ?_;have OC:=Qc yW;have ZP:∀i,i<(QY S o).l.length->(ko i).all D.KK=true:=λi hi=>by rw[ZH i hi];rfl
  have lE:=I4.lE;rw[Zj]at lE;refine Qe hb ?_;simp only[go_sem,Qa,yW,OC,ZP];refine⟨⟨by omega,ZP⟩,?_⟩;have OD:E.length+(QY S o).l.length=(E++(QY S o).l).length:=(Zj).symm;rw[OD]at I4 lE ⊢;obtain⟨E5,LZ⟩:∃E5,E5=E++(QY S o).l:=⟨_,rfl⟩;rw[<- LZ]at I4 lE ⊢;exact⟨Qj,_,Qp.frame (by simp only[go_sem,QT]),_,_,_,_,_,_,_,I4,rfl⟩
 ·obtain rfl:k=x.ops.length:=by omega
  have dk:=QN Qj;have lE:=I.lE;have hau:FE x.config (λ_=>[]) OG 0 (Zh (S0 x.config) x.ops).2.2 (Zh (S0 x.config) x.ops).1:=Qd0 x.ops (ZV.SW K) ⟨λj=>rfl,rfl,FJ _,FJ _,rfl⟩ hx;have ZP:=QHg K x.ops hx;have eS:=I.S_;have eE:=I.E_;rw[YO]at eS eE;have hq:∀j,YN E E.length j=Zn S.M j:=λj=>by
   have h1:=hau.st.w j;rw[<- eS,<- eE]at h1;rw[(QdZ E E.length (QB _)).1,YO];exact h1
  rw[<- eE]at ZP;have L0:=pB x.config E (by omega);rw[QHh ⟨K.t1,K.t2,K.l1,K.l2⟩ ZP]at L0;have hWt:=λc=>QAw (λa=>rfl) (QoC E c (by omega));refine Qe hb ?_;simp only[go_sem,Qa,dk,Qj];obtain⟨h5,xI,SI,W5,T5,k5⟩:=I.close (w0:=⟨w,[],[]⟩) rfl rfl (fr:=[(1,.ptr 0 0 0 0),(3,.ptr p 0 0 0),(4,Qb 0),(5,.ref lo g 0 E.length)]) 5 rfl;refine qS (Qp.trans (Qp.frame (fr':=[(1,.ptr 0 0 0 0),(3,.ptr p 0 0 0),(4,Qb 0),(5,.ref lo g 0 E.length)]) (by simp only[go_sem])) W5) ?_;have Fk:h5[0]? = some ⟨.one,0,3,1,λ_=>x.cells⟩:=(k5 0 (by simp) trivial).1;have N7:=Qc Fk;have hC:=oV T5;apply QC hb;refine Jh hb iL hC λd h6 hR=>?_;obtain⟨rfl,g6,rfl⟩:=hR;obtain⟨_,_,_,_,T5x⟩:=T5;have T6:∀g,Kj (QX xI h5 .no) (ZX SI h5 .my) (h5++g) p S:=λg=>⟨_,_,_,_,T5x.YK g⟩;have QHl:(S.M.T.map (·.iD)).length<=64:=by rw[Kl];exact T5x.co.I.tree.len
  obtain⟨ids,FA⟩:∃ids,ids=S.M.T.map (·.iD):=⟨_,rfl⟩;rw[<- FA]at QHl ⊢;apply QC hb;refine Jg (λk s=>s=⟨[(1,.ptr 0 0 0 0),(3,.ptr p 0 0 0),(4,Qb 0),(5,Kv E),(46,ints ids),(47,Qb ids.length),(48,Qb k)],h5++g6⟩) ids.length QQ rfl ?_;rintro j _ hj rfl;by_cases dQ:j<ids.length
  ·have dj:=Q5 dQ;have hwj:=JX (show j<4611686018427387904 by omega);obtain⟨id,Zg⟩:∃id,id=ids.getD j 0:=⟨_,rfl⟩;have hP:=Qdg (T6 g6) id;have hW:=hWt id;rw[hq id]at hW;have nJ:(Zn S.M id).length<=64:=T5x.co.cC id;have dG:=QmE (Zn S.M id) (by omega);unfold jD at hP dG;generalize Zn S.M id=Q at *;refine Qe hb ?_;simp only[go_sem,Qa,dj,dQ,<- Zg];refine Zu hb [] Qho rfl ?_ hW rfl λd h hR=>?_
   ·simp only[go_sem,Qa]
   obtain⟨rfl,rfl⟩:=hR;simp only[go_sem,Qa];apply QC hb;refine ZN hb sP hP λd hR=>?_;subst hR;apply QC hb;refine Zu hb [] Qhn rfl ?_ dG rfl λd h hR=>?_
   ·simp only[go_sem,Qa]
   obtain⟨rfl,rfl⟩:=hR;simp only[go_sem,Qa];apply QC hb;exact⟨dQ,_,Qp.frame (by simp only[go_sem,hwj]),rfl⟩
  ·have dj:=QN dQ;have Ds:(h5++g6)[0]? = some ⟨.one,0,3,1,λ_=>x.cells⟩:=(Qx N7).trans Fk;have IT:=Qc Ds;refine Qe hb ?_;simp only[go_sem,Qa,dj,dQ];refine Qe hb ?_;simp only[go_sem,Qa,Ds,IT,Qx N7,Fk];refine Zu hb [] iM rfl ?_ L0 rfl λd h hR=>?_
   ·simp only[go_sem,Qa,Aa,Go.undef]
   obtain⟨rfl,rfl⟩:=hR;simp only[go_sem,Qa,Aa,Go.undef];refine Qe hb ?_;simp only[go_sem,Qa,Aa,Go.undef];refine Zu hb [] sO rfl ?_ vB rfl λd h hR=>?_
   ·simp only[go_sem,Qa]
   obtain⟨rfl,rfl⟩:=hR;simp only[go_sem,Qa];exact V9 hb
end Go.Fg.X
namespace Go.Fg.X
open Go.Proofs Go.Fg Go.Proofs.YtagebhlinnibkaaGreat
open Go.ChangeShapes Go.RowKit
open Go.Proofs.Tryz
def QHn:laidOutB prog=true:=by kernel_rfl
def QHo:mapsRowed prog=true:=by kernel_rfl
def QHp:prog.stopsHeard=true:=by kernel_rfl
def QHq:prog.mayEnter=true:=by kernel_rfl
def QHr:(Rows.auditCleanRow.lifted==prog.liftsFinal)=true:=by kernel_rfl
def QHs:(prog.make==some Rows.auditCleanRow.make)=true:=by kernel_rfl
end Go.Fg.X
namespace Go.Fg.X
open Go.Proofs Go.Fg Go.Proofs.YtagebhlinnibkaaGreat
open Go.ChangeShapes Go.WideShapes Go.ChangeAt Go.RowKit
open Go.Proofs.Tryz
def QHt:ownKnob prog.godebug=none:=by kernel_rfl
def QHu:laidOutB prog=true:=by kernel_rfl
def QHv(os:Os)(started:os.Started)(H:Type)(enc:TypeId × Value->H):
  ReturnsInHanded {} checked os 5 .any (Rows.auditCleanSpec.pre6 enc prog f5 Rows.auditCleanRow.domain false) (Rows.auditCleanSpec.post enc prog f5 false true false false):=by
 refine returnsInHanded_of_change (C:=checked) QHt started (by kernel_rfl) func5
  (ChangeSpec.witness6 (enc:=enc) (C:=checked) false ⟨#[],#[.agg #[.int .i64 0,.int .i64 0,.slice none 0 0]],[]⟩ 12 (by kernel_rfl) (by kernel_rfl) (by kernel_rfl) (by kernel_rfl)) ?_
 intro W base args ds gs before vC hW dh _;have zk:∀(j:Nat) t v,f5.params[j]? = some t->args[j]? = some v->Value.okWide prog W .any base t v:=vC;have DW:=hW;obtain⟨p,q,vD,hV,rfl,yD,ZY⟩:=hW;have hA:DataW.TrodAll enc prog W 0 (λ_=>true) true f5.params.toList args.toList ds p:=vD;rw[params5]at hA zk;obtain⟨v0,dt,d0,dw,p0,q0,Gj,rfl,rfl,h0,r0⟩:=trodAll_cons hA;obtain⟨rfl,rfl,rfl⟩:=trodAll_nil r0;obtain rfl:args=#[v0]:=by cases args;simp_all
 obtain⟨rfl,rfl⟩:=trodVars_none hV;obtain⟨DX,rfl,_⟩:=okWide_struct underlying26 (zk 0 26 v0 rfl rfl);have t0:=h0;have DY:∀x∈p0,x.block<W.heap.size:=by obtain⟨m,hm⟩:=t0;exact DataW.trod_lt m _ _ _ hm
 obtain⟨x0,k0,c0⟩:=Rd.many P5 h0;clear vD vC;have walk:Calls prog 5 #[.agg DX] W λe W'=>e=.returned (.bool true)/\Below W.heap.size W W':=P4 (QHi x0 k0.2.1.2) W [_] rfl (λi hi=>match i,hi with
  | 0,_=>c0)
 refine walk.mono λe W' ⟨he,VI⟩=>?_;subst he;exact⟨_,rfl,_,_,_,[],_,[],DW,trodAll_mk1 (shut_bool underlying4 _),(trodAll_cons_mk (Below.trod QHu (by kernel_rfl) (Wc (by kernel_rfl)) t0 VI DY) trodAll_mk0),rfl,VI.frame _,λh=>by cases h⟩
def jn{a b}(ha:a=true)(hb:b=true):(a&&b)=true:=by rw[ha,hb];rfl
def QHw:(Rows.auditCleanRow.inPlace==prog.inPlace 5)=true:=by kernel_rfl
def QHx:(Rows.auditCleanRow.unfollowed==prog.unfollowed 5)=true:=by kernel_rfl
def QHy:(Rows.auditCleanRow.recurses==prog.recurses 5)=true:=by kernel_rfl
def QHz:(Rows.auditCleanRow.named==prog.varsNamed 5)=true:=by kernel_rfl
def QHA:(Rows.auditCleanRow.maps==(f5.params.toList++Rows.auditCleanSpec.plain.varTypes prog).any (prog.mapsRec ·))=true:=by kernel_rfl
def QHB:(Rows.auditCleanRow.ifaces==(f5.params.toList++Rows.auditCleanSpec.plain.varTypes prog).any (prog.ifacesRec ·))=true:=by kernel_rfl
def QHC:(Rows.auditCleanRow.loops==(f5.params.toList++Rows.auditCleanSpec.plain.varTypes prog).any (prog.loopsFrom ·))=true:=by kernel_rfl
def QHD:joinedFacts prog 5 f5 Rows.auditCleanSpec Rows.auditCleanRow=true:=by
 unfold joinedFacts;refine(jn (jn (jn (jn (jn (jn (jn (jn (jn (jn (jn (jn (jn (jn (jn (jn (jn (jn (jn (jn (jn (jn (jn (jn (jn (jn (jn (jn (jn (jn (jn ?_ QHn) QHo) ?_) ?_) ?_) ?_) ?_) ?_) QHw) QHx) QHy) QHz) QHA) QHB) ?_) QHC) ?_) ?_) ?_) ?_) ?_) ?_) ?_) QHp) QHq) QHr) QHs) ?_) ?_) ?_) ?_);all_goals kernel_rfl
def QHE:prog.funcNamed Rows.auditCleanRow.func=some 5:=by kernel_rfl
theorem provedAuditClean:Rows.AuditCleanSaid:=
 OpenClaim.holds_of_wide 5 f5 rfl rfl rfl rfl rfl rfl rfl ⟨rfl,rfl,rfl,rfl,rfl⟩ rfl rfl rfl rfl rfl QHE func5 QHD
  (Wc (by kernel_rfl)) (by unfold Func.isWrapper;first|(rw[Qf (by decide +kernel)];kernel_rfl)|(rw[Qd (by decide +kernel)];exact⟨rfl,rfl⟩))
  (λos started H enc _=>QHv os started H enc)
end Go.Fg.X
namespace Go.Proofs.YtagebhlinnibkaaGreat
theorem auditClean_done: Rows.AuditCleanSaid := Go.Fg.X.provedAuditClean
end Go.Proofs.YtagebhlinnibkaaGreat
