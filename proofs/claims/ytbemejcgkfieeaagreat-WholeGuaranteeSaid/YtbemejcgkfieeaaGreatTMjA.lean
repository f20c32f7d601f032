/- Contracts and laws on the way to the statement. No conditions. -/
import Derived.Test.YtbemejcgkfieeaaGreatSGaA
import Derived.Test.YtbemejcgkfieeaaGreatTR3A
import Derived.Test.YtbemejcgkfieeaaGreatCA2A
import Derived.Test.YtbemejcgkfieeaaGreatPK1A
set_option maxRecDepth 100000
set_option maxHeartbeats 16000000
set_option linter.unusedVariables false
set_option linter.unusedSimpArgs false
set_option linter.unusedSectionVars false
set_option linter.defProp false
namespace Go.Fg.X
open Go.Proofs Go.Fg
open Go.Proofs.Tryz
def yo.uniq{M d o e}(a:yo M d o)(b:yo M d e):o=e:=by
 unfold yo at a b;cases o with
 | none=>
  cases e with
  | none=>rfl
  | some y=>have f:_=[]:=a;have c:=Wa.mem b;rw[f]at c;cases c
 | some x=>
  cases e with
  | none=>have f:_=[]:=b;have c:=Wa.mem a;rw[f]at c;cases c
  | some y=>exact congrArg some (Wa.uniq a b)
def yo.QC4{M:Qn}{a}{o:Option It}(h:yo M a o)(d:a<=4611686018427387904):o.isSome=true↔∃x∈M.Lv,x.ka<=a:=by
 have e:min a 9223372036854775807=a:=ω;unfold yo at h;rw[e]at h;cases o with
 | none=>have c:M.Lv.filter (λx=>decide (x.ka<=a))=[]:=h;constructor;intro h;cases h;rintro⟨x,hx,b⟩;have:x∈M.Lv.filter (λx=>decide (x.ka<=a)):=JB.2 ⟨hx,by simpa using b⟩;rw[c]at this;cases this
 | some x=>refine⟨λ_=>?_,λ_=>rfl⟩;obtain⟨c,b⟩:=JB.1 (Wa.mem h);exact⟨x,c,by simpa using b⟩
def Qbo{L}(a:Vy L){now}(d:now<=4611686018427387904):RC L<=now↔∃x∈L,x.ka<=now:=by
 unfold RC;cases L with
 | nil=>simp[never];omega
 | cons y L=>
  simp only[List.head?_cons];have c:never=9223372036854775808:=rfl;constructor;intro h;exact⟨y,Jo,ω⟩;rintro⟨x,hx,h⟩;have e:y.ka<=x.ka:=by rcases QK.1 hx with rfl|hx;exact Qv _;have b:y.lt x:=(AD.1 a).1 x hx;unfold It.lt KA at b;omega
  omega
def QlB{L a}(e:a<=4611686018427387904):CD L<=a↔∃x∈L,x.va<=a:=by obtain⟨f,c,b⟩:=tf L never;have d:never=9223372036854775808:=rfl;unfold CD;constructor;intro h;rcases b with b|⟨x,hx,b⟩;omega;exact⟨x,hx,ω⟩;rintro⟨x,hx,h⟩;have:=c x hx;omega
def QlC{M:Qn}{a}(b:a<=4611686018427387904){p:Int}:(firstM M a p).isSome=true↔∃x∈M.KT p,x.va<=a:=by unfold firstM;rw[List.find?_isSome];have e:min a 9223372036854775807=a:=ω;simp[e]
def QC5(T)(a:Int):(up T a).length<=16:=Bf
def QlD{M:Qn}(I:QB M)(V:Inv M){a}(b:a<=4611686018427387904):∀(k:Nat) (p:Int),17<=k+(up M.T p).length->(∃x∈M.KT p,x.va<=a)->(Bs M a k p).isSome=true
 | 0,p,i,_=>by have:=QC5 M.T p;omega
 | k+1,p,i,h=>by
  have g:=(QlC b).2 h;unfold Bs;cases d:firstM M a p with
  | none=>rw[d]at g;cases g
  | some x=>
   dsimp only;have hx:x∈M.KT p:=xG d;have r:x.va<=a:=by have:=yy d;simp only[W3]at this;omega
   obtain⟨n,f,o,m,l⟩:=(V.kt p x).1 hx;have q:Qz M x.ki=n:=by unfold Qz;rw[f];rfl
   rw[q];by_cases c:n.c.leaf=true;rw[Qe c];rfl;rw[Qd c];have e:x.va=qM M x.ki n:=congrArg It.va l;unfold qM at e;rw[Qd (by rw[m];simp[c])]at e;have j:CD (M.KT x.ki)<=a:=ω;refine QlD I V b k x.ki ?_ ((QlB b).1 j);rw[V0 I.tree (I.some f),o,Kx];omega
def QC6{M}(I:QB M)(V:Inv M){a}(b:a<=4611686018427387904){o:Option It}(e:yo M a o):(Vo M a o).isSome=true↔Vm M<=a:=by
 have d:=e.QC4 b;have j:=Qbo V.qg.1 b;have i:=QlB (L:=M.KT 0) b;have g:Vm M<=a↔RC M.Lv<=a\/CD (M.KT 0)<=a:=by unfold Vm;omega
 rw[g,j,i];cases o with
 | some x=>simp only[Vo,BL,true_iff];exact .inl (d.1 rfl)
 | none=>
  have f:¬ ∃x∈M.Lv,x.ka<=a:=λh=>by cases d.2 h
  simp only[Vo,Option.isSome_map];constructor;intro h;refine .inr ?_;unfold Bs at h;cases c:firstM M a 0 with
  | none=>rw[c]at h;cases h
  | some x=>exact(QlC b).1 (by rw[c];rfl)
  rintro (h|h);exact absurd h f;exact QlD I V b 17 0 (by rw[Mw I.tree];simp) h
def Gy(c:Cf):Bool:=decide (1<=c.t)&&decide (c.t<=65536)&&decide (1<=c.Ze)&&decide (c.Ze<=16384)
def QlE(c:Cf):QM prog 21 [.agg c.cells] (QR (QV (Gy c))):=by unfold Gy;refine Q1 0 func21 ntmps21 results21 λa w f=>?_;simp only[go_sem];all_goals (cases g:decide (1<=c.t)<;>cases e:decide (c.t<=65536)<;>cases d:decide (1<=c.Ze)<;>cases b:decide (c.Ze<=16384)<;>simp only[go_sem,e,d,b])
def aL:List It->Option It
 | []=>none
 | x::l=>match aL l with
  | none=>some x
  | some y=>some (kF x y)
def QlF:∀L:List It,yV (aL L) L
 | []=>rfl
 | x::l=>by
  have h:=QlF l;unfold aL;cases a:aL l with
  | none=>rw[a]at h;have b:l=[]:=h;subst b;exact Wa.one x
  | some y=>rw[a]at h;exact Wa.join (Wa.one x) h
def QlG(M:Qn)(a:Nat):Option It:=aL (M.Lv.filter λx=>decide (x.ka<=min a 9223372036854775807))
def Gz(M a):yo M a (QlG M a):=QlF _
def XH(M:Qn)(a:Nat):Option (Int × Bool):=if xp M a=true then Vo (ZA M a) a (QlG (ZA M a) a) else none
def takeN(M:Qn)(a:Nat):Qn:=match XH M a with
 | none=>ZA M a
 | some x=>XU (ZA M a) x.1 x.2
def Jc(M:Qn)(a:Nat):Int:=match XH M a with
 | none=>0
 | some x=>x.1
def JA(M:Qn)(a:Nat):Pk:=match XH M a with
 | none=>default
 | some x=>(Qz M x.1).q.l.headD default
def WY(M:Qn)(a:Nat):Bool:=match XH M a with
 | none=>false
 | some x=>x.2
def Wn(M:Qn)(a:Nat):Bool:=(XH M a).isSome
def QC7{M c a d}(h:ai M a d c):c=takeN M a/\d=.tup [.agg (zH (Jc M a) (JA M a) (WY M a)),QV (Wn M a)]:=by
 rcases h with ⟨f,rfl,rfl⟩|⟨f,o,i,b⟩;have e:XH c a=none:=by unfold XH;rw[Qd (by rw[f];exact xE)]
 have j:ZA c a=c:=by unfold ZA;rw[Qd (by rw[f];exact xE)]
 unfold takeN Jc JA WY Wn;rw[e];exact⟨j.symm,rfl⟩;have e:XH M a=Vo (ZA M a) a o:=by unfold XH;rw[Qe f,(Gz (ZA M a) a).uniq i]
 unfold takeN Jc JA WY Wn;rw[e];cases g:Vo (ZA M a) a o with
 | none=>rw[g]at b;exact⟨b.2,b.1⟩
 | some x=>rw[g]at b;exact⟨b.2,b.1⟩
structure jR (own:Nat->Tag) (h:List Ob) (p:Nat) (M:Qn):Prop where
 ex:∃L,ZI own h p L M
 I:QB M
 V:Inv M
 K:Wm M.lk
def jR.step{a own'}{h h':List Ob}{p M}(C:jR a h p M)(e:∀l,l<h.length->Live (a l)->own' l=a l/\h'[l]? = h[l]?):jR own' h' p M:=
 ⟨C.ex.imp λ_ c=>c.step e,C.I,C.V,C.K⟩
def jR.Rf{a h p M}(C:jR a h p M)(g):jR (Q5 a h .no) (h++g) p M:=C.step λl b _=>⟨KB b,QG b⟩
def QlH(l:List Int)(M:Qn):(Wu M l).lk=M.lk:=(Er l M).2.2.2.2.2.2.2.2
def QC8(M:Qn)(a:Int):(XT M a).lk=M.lk:=by unfold XT;split;exact(Iq _ _).2.2.1;rfl
def QC9(M:Qn)(a)(r:Bool):(XU M a r).lk=M.lk:=by
 unfold XU;dsimp only;rw[QlH];have b:(Wv ((up M.T a).foldl (VO ((Qz M a).q.l.headD default).len.toNat) (Ww M a)) a ((Qz M a).q.l.headD default).len r).lk=M.lk:=by rw[(Rs _ _ _ _).2.2.2.1,(NC _ _ _).2.2.2.1];rfl
 split;rw[QC8,b];exact b
def QDa(M:Qn)(b c)(a:Int):(qd M b c a).lk=M.lk:=by unfold qd;split;rw[QlH,(Im _ _ _).2.2.2.1];exact Nw.2.2.2;exact Nw.2.2.2
def mP(M:Qn)(a:Nat):(ZA M a).lk=M.lk:=(QkH M a).1
def QDb(M:Qn)(a b)(x:Pk):(VE M a b x).lk=M.lk:=by unfold VE;split;rfl;split;split;rw[QDa];rfl;rfl;rfl
def BA(M:Qn)(a b)(x:Pk):(Zx M a b x).lk=M.lk:=by unfold Zx;split;rw[QDb,mP];rfl
def QlI(M:Qn)(a:Nat):(takeN M a).lk=M.lk:=by unfold takeN;split;exact mP M a;rw[QC9,mP]
def RI(M:Qn)(b)(l:List Jj):(Kp M b l).lk=M.lk:=by unfold Kp;split;exact(EB _ _).2.2.1;rfl
def QDc{M:Qn}{a}(h:xp M a=true):M.Qc<=a/\a<=4611686018427387904:=by unfold xp at h;simp only[qV,EP,G2]at h;omega
def Inv.pick{M:Qn}(I:QB M)(V:Inv M){a o}(d:yo M a o){b r}(c:Vo M a o=some (b,r)):∃n,Qi M.N b=some n/\n.c.leaf=true/\n.q.l≠[]/\(1<QJ n.c.ls->b∈M.A):=Good.Qat I V.EF a o b r d c
def Inv.takeN{M}(I:QB M)(V:Inv M)(a):Inv (takeN M a):=by
 unfold X.takeN;cases b:XH M a with
 | none=>exact V.told a
 | some x=>unfold XH at b;split at b;obtain⟨n,e,d,c,_⟩:=(V.told a).pick (Af I a) (Gz _ _) b;exact(V.told a).take (Af I a) e d c x.2;cases b
def Inv.Kp{M}(I:QB M)(V:Inv M)(b l)(e:∀c∈l,Jj.Ok c):Inv (Kp M b l):=by
 unfold X.Kp;split;rename_i h;have f:jm M (Z5 M.T l) b=false:=by unfold qf at h;split at h;rename_i d;exact absurd h d;split at h;cases h;rename_i a;simpa using a
 obtain⟨d,a⟩:=Re I.tree I.xn e;exact V.change I d a f;exact V
def QDd{c}:Gy c=true↔Wm c:=by unfold Gy;simp only[ZM,W3];exact⟨λh=>⟨h.1.1.1,h.1.1.2,h.1.2,h.2⟩,λh=>⟨⟨⟨h.t1,h.t2⟩,h.l1⟩,h.l2⟩⟩
section
variable {own:Nat->Tag}{h:List Ob}{p:Nat}{M:Qn}(C:jR own h p M)
include C
theorem QDe(b)(g:b<18446744073709551616)(e x):
  QO prog 78 h [.ptr p 0 0 0,u64 b,Qa e,.agg x.cells] (λd f=>d=Qa (qO M b e x)/\∃a,jR a f p (Zx M b e x)/\ZC own h a f):=by
 obtain⟨L,c⟩:=C.ex;refine QO.mono (QBp c C.I C.K b g e x (Good.hA C.I C.V.EF e)) ?_;rintro d f ⟨a,l,j,k,D,i,rfl⟩;exact⟨i,a,⟨⟨L,j⟩,k,C.V.Zx C.I b g e x,by rw[BA];exact C.K⟩,D⟩
theorem QDf(a):
  QO prog 118 h [.ptr p 0 0 0,u64 a] (λd e=>d=.tup [.agg (zH (Jc M a) (JA M a) (WY M a)),QV (Wn M a)]/\∃b,jR b e p (takeN M a)/\ZC own h b e):=by
 obtain⟨L,c⟩:=C.ex;refine QO.mono (QA7 c C.I a λo id r g f=>?_) ?_;obtain⟨n,q,m,l,k⟩:=(C.V.told a).pick (Af C.I a) g f;exact⟨n,by rw[<-(xq M a).1];exact q,m,l,by rw[<-(xq M a).2.2];exact k⟩;rintro d e ⟨b,u,s,t,D,j⟩;obtain⟨rfl,i⟩:=QC7 j;exact⟨i,b,⟨⟨L,s⟩,t,C.V.takeN C.I a,by rw[QlI];exact C.K⟩,D⟩
theorem QDg(b)(l:List Jj)(f:∀c∈l,Jj.Ok c)(g:l.length<1000000):
  QO prog 44 h [.ptr p 0 0 0,QV b,Gl l] (λd e=>d=.tup [Qa (Aj M l),Qa (qf M b l)]/\∃a,jR a e p (Kp M b l)/\ZC own h a e):=by
 obtain⟨L,c⟩:=C.ex;refine QO.mono (QCj c C.I C.K b l f g (Good.Bx C.I C.V.EF) (Good.Rw C.I C.V.EF)) ?_;rintro d e ⟨a,k,n,j,m,D,i,rfl⟩;exact⟨i,a,⟨⟨k,j⟩,m,C.V.Kp C.I b l f,by rw[RI];exact C.K⟩,D⟩
end
def QDh(b h){c}(K:Wm c):
  QO prog 39 h [.agg c.cells] (λd e=>∃a p,d=.tup [.ptr p 0 0 0,Qa 0]/\jR a e p (M0 c)/\ZC b h a e):=by
 refine QO.mono (QBz (own:=b) c) ?_;rintro d e (⟨_,a,L,p,g,i,j,D⟩|⟨f,_⟩);exact⟨a,p,g,⟨⟨L,i⟩,j,Qk8 c,K⟩,D⟩;exact absurd K f
end Go.Fg.X
namespace Go.Fg
open Go.RowKit (Below)
def Qs.QDi{w0 f h}(t c)(p:get f t=.nil):
  Qs w0 ⟨f,h⟩ ⟨put f t (.ref h.length 0 0 0),h++[(⟨.arr,0,c,0,λ_=>[]⟩:Ob)]⟩:=by
 intro Z z i n d a w r b;have g:d.length=h.length:=r.o.len;have v:=r.o.vr ⟨.arr,0,c,0,λ_=>[]⟩ rfl;have l:Tr h d w (h++[(⟨.arr,0,c,0,λ_=>[]⟩:Ob)]) (d++[none]) w:=Tr.push r.o (λ_ _=>rfl) _ _ (by intro b q e;simp at e);have j:(h++[(⟨.arr,0,c,0,λ_=>[]⟩:Ob)])[h.length]?=some ⟨.arr,0,c,0,λ_=>[]⟩:=σ;have k:=r.fr t;rw[show get (St.fr ⟨f,h⟩) t=.nil from p]at k;obtain⟨s,o⟩:=AJ k;have m:Rel Z i n ⟨f,h++[⟨.arr,0,c,0,λ_=>[]⟩]⟩ (d++[none]) a w:=⟨r.nt,r.defers,λu=>(r.fr u).tr l,v⟩;refine⟨d++[none],m.tell (t:=t) ?_,b.step l (Below.refl _ _)⟩;rw[o];refine .ref _ _ _ _ ⟨.arr,0,c,0,λ_=>[]⟩ none s 0 j ?_ rfl (Qv _) (λ_=>.inl ⟨rfl,rfl⟩);rw[<-g];simp
end Go.Fg
namespace Go.Fg.X
open Go.Proofs Go.Fg
open Go.Proofs.Tryz
def Q4(M:Qn)(a:Int):List Pk:=(Qz M a).q.l
def Da(n:Nd):List Pk:=n.q.l
def aM{M c:Qn}{a:Int}(h:(Qi c.N a).map Da=(Qi M.N a).map Da):Q4 c a=Q4 M a:=by
 unfold Q4 Qz;cases b:Qi M.N a with
 | none=>rw[b,qY,cG]at h;rw[h]
 | some n=>rw[b]at h;obtain⟨m,e,d⟩:=WK.1 h;rw[e];exact d
def QDk(M:Qn)(b c)(a:Int)(j:Int):(Qi (qd M b c a).N j).map Da=(Qi M.N j).map Da:=by
 have d:(Qi (WW M b c a).N j).map Da=(Qi M.N j).map Da:=by rw[mG];split;cases Qi M.N j<;>rfl;rfl
 unfold qd;split;rw[(Er _ _).1,wo (key:=Da) (λM j c=>Qa9 b (λ_ _=>rfl) M j c)];exact d;exact d
def QDl{M}(g a x b):Q4 (VE M g a x) b=if VP M a x=0/\a=b then Q4 M b++[x] else Q4 M b:=by
 have push:∀j,j≠a->Q4 (K6 M a x) j=Q4 M j:=λj o=>aM (by rw[NI,Qd o]);cases c:Qi M.N a with
 | none=>
  have e:VP M a x=23:=by unfold VP;rw[c]
  unfold VE;rw[e,Qd π,Qd π,Qd (λh=>absurd h.1 π)]
 | some n=>
  have m:Qz M a=n:=by unfold Qz;rw[c];rfl
  have i:Q4 (K6 M a x) a=(X9 n.c.ZV n.c.bytes n.q x).l:=by unfold Q4 Qz;rw[NI,Qe rfl,c,m];rfl
  have l:Q4 M a=n.q.l:=by unfold Q4;rw[m]
  by_cases f:VP M a x=30;obtain⟨_,k⟩:=Qli c f;unfold VE;rw[Qe f,Qd (λh=>by rw[f]at h;exact absurd h.1 π)];by_cases e:b=a;rw[e,i,l];unfold X9;rw[Qe k];exact push b e;by_cases d:VP M a x=0;obtain⟨_,k,_⟩:=Qba c d;have p:Q4 (VE M g a x) b=Q4 (K6 M a x) b:=by unfold VE;rw[Qd f,Qe d];split;exact aM (QDk _ _ _ _ _);rfl
  rw[p];by_cases e:b=a;rw[Qe ⟨d,e.symm⟩,e,i,l,Qla k];rw[Qd (λh=>e h.2.symm)];exact push b e;unfold VE;rw[Qd f,Qd d,Qd (λh=>d h.1)]
def Qbq(M)(a:Nat)(b):Q4 (ZA M a) b=Q4 M b:=aM (by rw[(xq M a).1])
def NK(M c b x a):Q4 (Zx M c b x) a=if qO M c b x=0/\b=a then Q4 M a++[x] else Q4 M a:=by unfold Zx qO;split;rw[QDl,Qbq];rw[Qd (λh=>absurd h.1 π)]
def QDm(M a r)(j:Int):Q4 (XU M a r) j=if j=a then (Q4 M j).tail else Q4 M j:=by
 have h:Q4 (XU M a r) j=Q4 (Ww M a) j:=by
  refine aM ?_;unfold XU;dsimp only;rw[(Er _ _).1];have b:(Qi (Wv ((up M.T a).foldl (VO ((Qz M a).q.l.headD default).len.toNat) (Ww M a)) a ((Qz M a).q.l.headD default).len r).N j).map Da=(Qi (Ww M a).N j).map Da:=by rw[Qbf];have g:=wo (key:=Da) (step:=VO ((Qz M a).q.l.headD default).len.toNat) (λi j c=>Qbd _ (λ_=>rfl) i j c) (up M.T a) (Ww M a) j;rw[<-g];split;cases Qi ((up M.T a).foldl (VO ((Qz M a).q.l.headD default).len.toNat) (Ww M a)).N j<;>rfl;rfl
  split;unfold XT;split;rw[wo (key:=Da) (Gx (λ_=>rfl))];exact b;exact b;exact b
 rw[h];have d:Qi (Ww M a).N j=if j=a then (Qi M.N j).map (λn=>{ n with q:=Kv (Qz M a).q }) else Qi M.N j:=
  jM (f:=λn:Nd=>{ n with q:=Kv (Qz M a).q }) (λ_=>rfl) j
 by_cases e:j=a;rw[Qe e];unfold Q4 Qz;rw[d,Qe e,e];unfold Qz;cases k:Qi M.N a<;>rfl;rw[Qd e];exact aM (by rw[d,Qd e])
def Db(M a)(j:Int):Q4 (takeN M a) j=if Wn M a=true/\Jc M a=j then (Q4 M j).tail else Q4 M j:=by
 unfold takeN Wn Jc;cases b:XH M a with
 | none=>rw[Qd (λh=>by cases h.1)];exact Qbq M a j
 | some x=>dsimp only;rw[QDm,Qbq];by_cases e:j=x.1;rw[Qe e,Qe ⟨rfl,e.symm⟩];rw[Qd e,Qd (λh=>e h.2.symm)]
def RJ{M}(I:QB M)(V:Inv M){a}(h:Wn M a=true):∃x l,Q4 M (Jc M a)=x::l/\JA M a=x:=by
 unfold Wn at h;obtain⟨y,b⟩:=E6.1 h;have g:Jc M a=y.1:=by unfold Jc;rw[b]
 have f:JA M a=(Q4 M y.1).headD default:=by unfold JA;rw[b];rfl
 unfold XH at b;split at b;obtain⟨n,e,j,i,_⟩:=(V.told a).pick (Af I a) (Gz _ _) b;rw[(xq M a).1]at e;have d:Q4 M y.1=n.q.l:=by unfold Q4 Qz;rw[e];rfl
 cases c:n.q.l with
 | nil=>exact absurd c i
 | cons x l=>exact⟨x,l,by rw[g,d,c],by rw[f,d,c];rfl⟩
 cases b
def QDn{c}(b l j):Q4 (Kp (M0 c) b l) j=[]:=by
 unfold Kp;split;have r:∀(L:List Int) (g:List Ql) (M:Qn),(∀id n,Qi M.N id=some n->n.q.l=[])->∀id n,Qi (L.foldl (J2 g) M).N id=some n->n.q.l=[]:=by
  intro L g;induction L with
  | nil=>intro M h;exact h
  | cons i L m=>
   intro M h;refine m _ λid n a=>?_;unfold J2 at a;split at a;rw[CX]at a;split at a;cases a;exact h id n a;have f:∀(k:Ql) (N:List Nd),Qi (Yd k::jQ N i) id=some n->(∀n,Qi N id=some n->n.q.l=[])->n.q.l=[]:=λk N a h=>by unfold Qi at a;rw[vm]at a;split at a;cases a;rfl;have d:Qi (jQ N i) id=some n:=a;rw[CX]at d;split at d;cases d;exact h n d
   split at a;exact f _ _ a (h id);exact f _ _ a (h id)
 have q:=r (J1 (M0 c).T (Z5 (M0 c).T l)) (Z5 (M0 c).T l) { M0 c with T:=Z5 (M0 c).T l } (λid n a=>by simp[M0,Qi]at a);have p:∀id,(Qz (VV (M0 c) (Z5 (M0 c).T l)) id).q.l=[]:=λid=>by
  unfold Qz VV;cases e:Qi ((J1 (M0 c).T (Z5 (M0 c).T l)).foldl (J2 (Z5 (M0 c).T l)) { M0 c with T:=Z5 (M0 c).T l }).N id with
  | none=>rfl
  | some n=>exact q id n e
 unfold Q4 Qz;show ((Qi (XV (M0 c) (Z5 (M0 c).T l)) j).getD default).q.l=[];cases e:Qi (XV (M0 c) (Z5 (M0 c).T l)) j with
 | none=>rfl
 | some n=>have o:n∈XV (M0 c) (Z5 (M0 c).T l):=xG e;obtain⟨k,_,rfl⟩:=Jw.1 o;exact p _
 rfl
def c6:Cf:=⟨1,100⟩
def NL(a m:Int):Jj:=⟨1,⟨a,0,true,⟨0,0,0⟩,⟨m,0,m⟩,⟨0,0,0⟩,3,300⟩⟩
def QlJ(L:List Int)(M:Qn)(a:List Ql):Qn:=
 let D:=L.foldl (J2 a) { M with T:=a };let b:Qn:={ D with N:=a.map λc=>Qz D c.iD,To:=a,A:=[] }
 { b with A:=(V5 b).foldl (xu a) [] }
theorem QDo(M:Qn)(a):wm M a=QlJ (J1 M.T a) M a:=rfl
def QlK{e:Type}{a:Nd->e}{M d:Qn}{b:Int}(h:(Qi d.N b).map a=(Qi M.N b).map a):a (Qz d b)=a (Qz M b):=by
 unfold Qz;cases c:Qi M.N b with
 | none=>rw[c,qY,cG]at h;rw[h]
 | some n=>rw[c]at h;obtain⟨m,g,f⟩:=WK.1 h;rw[g];exact f
def QDp(M:Qn)(b c)(a:Int):(qd M b c a).T=M.T:=by unfold qd;split;rw[(Er _ _).2.1,(Im _ _ _).1];exact Nw.1;exact Nw.1
def QDq(M:Qn)(a)(r:Bool):(XU M a r).T=M.T:=by
 unfold XU;dsimp only;rw[(Er _ _).2.1];have b:(Wv ((up M.T a).foldl (VO ((Qz M a).q.l.headD default).len.toNat) (Ww M a)) a ((Qz M a).q.l.headD default).len r).T=M.T:=by rw[(Rs _ _ _ _).1,(NC _ _ _).1];rfl
 split;unfold XT;split;rw[(Iq _ _).1];exact b;exact b;exact b
def QB.up{M:Qn}(I:QB M){id j}(h:j∈X.up M.T id):∃n,Qi M.N j=Option.some n:=by obtain⟨c,a⟩:=E6.1 (HP h);obtain⟨n,b,_⟩:=I.Nt a;exact⟨n,b⟩
def QB.mQ:∀(l:List Int) {M:Qn},QB M->We M->(∀j∈l,∃n,Qi M.N j=Option.some n)->QB (Wu M l)
 | [],M,I,_,_=>I
 | id::l,M,I,V,h=>by obtain⟨n,b⟩:=h id Jo;have a:=(Rh M id).1;exact QB.mQ l (u9 I b (V id n b)) (by unfold We;rw[a];exact V) (by rw[a];exact λj c=>h j (Js _ c))
def QDr{M:Qn}(V:We M){a n}(c:Qi M.N a=some n)(b r):We (Wv M a b r):=by
 have d:Qz M a=n:=by unfold Qz;rw[c];rfl
 unfold Wv;split;exact ID (f:=λm:Nd=>{ m with du:=qN (Qz M a) b r }) (λ_=>rfl) (λm _ h=>⟨h.JD,by rw[d];exact Qac (V a n c) b r,h.sh,h.cp,h.c⟩) V;exact V
def QDs{M}(V:We M)(a):We (XT M a):=by unfold XT;split;exact Qbc _ (M:={ M with A:=Kj M.A a }) V;exact V
def QB.XU{M:Qn}(I:QB M)(V:We M){a n}(t:Qi M.N a=Option.some n)(r):QB (XU M a r):=by
 unfold X.XU;dsimp only;generalize ((Qz M a).q.l.headD default).len=b;obtain⟨c,d⟩:=Zc ((X.up M.T a).foldl (X.VO b.toNat) (X.Ww M a));rw[<-d];have p:QB c:=by rw[d];exact QB.mi _ (I.Ww a)
 obtain⟨k,_⟩:=NC b.toNat (X.up M.T a) (X.Ww M a);rw[<-d]at k;have u:We c:=by rw[d];exact Qbe _ _ (ID (f:=λn:Nd=>{ n with q:=Kv (Qz M a).q }) (λ_=>rfl) (λn _ h=>⟨h.JD,h.du,h.sh,h.cp,h.c⟩) V)
 have s:c.T=M.T:=k;obtain⟨w,m⟩:=p.up (id:=a) (j:=a) (by rw[s];exact Yp I.tree (I.some t));have i:=p.Wv m b r;have l:=QDr u m b r;have e:(X.Wv c a b r).T=M.T:=(Rs c a b r).1.trans s;split;have o:=i.XT a;have v:(X.XT (X.Wv c a b r) a).T=M.T:=by unfold X.XT;split;rw[(Iq _ _).1];exact e;exact e
 exact o.mQ _ (QDs l a) λj g=>o.up (id:=a) (by rw[v];exact g);exact i.mQ _ l λj g=>i.up (id:=a) (by rw[e];exact g)
def QDt{M:Qn}(V:We M){b n}(f:Qi M.N b=some n)(c)(i:c<18446744073709551616)(a):We (WW M c b a):=λj k d=>by
 have l:Qz M b=n:=by unfold Qz;rw[f];rfl
 rw[mG,l]at d;split at d;obtain⟨g,h,rfl⟩:=WK.1 d;have e:=V j g h;exact⟨e.JD,tS (V b n f).du (V b n f).c.2.2.2.1.lt i a,e.sh,e.cp,e.c⟩;exact V j k d
def QlL{a}(b:a<18446744073709551616):∀(l:List Int) (M:Qn),QB M->We M->We (l.foldl (XG a) M)
 | [],M,_,V=>V
 | j::l,M,I,V=>QlL b l _ (I.XG a j) (ID (f:=Es M a) (λ_=>rfl) (λn _ c=>Qaf I b c) V)
def QB.qd{M:Qn}(I:QB M)(V:We M){d}{n:Nd}(e:Qi M.N d=Option.some n)(o:n.c.leaf=true)(c)(h:c<18446744073709551616)(b):QB (qd M c d b):=by
 have s:Qz M d=n:=by unfold Qz;rw[e];rfl
 have l:=I.WW e c b;have r:=QDt V e c h b;obtain⟨g,v,u,t⟩:=Nw (M:=M) (now:=c) (id:=d) (head:=b);unfold X.qd;rw[s];split;rename_i m;have k:QB { X.WW M c d b with A:=d::M.A }:=l.act λa f=>by rw[g];rcases QK.1 f with rfl|f;exact⟨n.c,I.some e,o,m⟩;exact I.qc a f
 have i:=QB.U1 (now:=c) (XO M.T M.A d) k;have q:=QlL h (XO M.T M.A d) _ k r;obtain⟨t1,_⟩:=Im c (XO M.T M.A d) { X.WW M c d b with A:=d::M.A };exact i.mQ _ q λj p=>i.up (id:=d) (by rw[t1];show j∈X.up (X.WW M c d b).T d;rw[g];exact p);exact l
def QB.VE{M}(I:QB M)(V:We M)(b)(k:b<18446744073709551616)(a x):QB (VE M b a x):=by
 unfold X.VE;cases c:Qi M.N a with
 | none=>
  have e:VP M a x=23:=by unfold VP;rw[c]
  rw[e,Qd π,Qd π];exact I
 | some n=>
  have f:Qz M a=n:=by unfold Qz;rw[c];rfl
  by_cases h:VP M a x=30;rw[Qe h];exact I.K6 a x;rw[Qd h];by_cases d:VP M a x=0;rw[Qe d,f];obtain⟨j,o,m,l,i⟩:=Qba c d;have g:=(I.K6 a x).jP i;split;refine g.qd (Qa8 V a x) (n:={ n with q:=X9 n.c.ZV n.c.bytes n.q x }) ?_ j b k x.len;show Qi (X.K6 M a x).N a=_;rw[NI,Qe rfl,c,f];rfl;exact g;rw[Qd d];exact I
def QB.Zx{M}(I:QB M)(V:Inv M)(a)(c:a<18446744073709551616)(b x):QB (Zx M a b x):=by unfold X.Zx;split;exact(Af I a).VE (V.told a).ok a c b x;exact I
def QB.takeN{M}(I:QB M)(V:Inv M)(a):QB (takeN M a):=by
 unfold X.takeN;cases b:XH M a with
 | none=>exact Af I a
 | some x=>unfold XH at b;split at b;obtain⟨n,c,e,d,_⟩:=(V.told a).pick (Af I a) (Gz _ _) b;exact(Af I a).XU (V.told a).ok c x.2;cases b
def QB.Kp{M}(I:QB M)(V:Inv M)(b l)(k:∀c∈l,Jj.Ok c):QB (Kp M b l):=by
 unfold X.Kp;split;rename_i h;have r:jm M (Z5 M.T l) b=false:=by unfold qf at h;split at h;rename_i g;exact absurd h g;split at h;cases h;rename_i f;simpa using f
 obtain⟨g,f⟩:=Re I.tree I.xn k;have i:=V.ay I g f r;have o:(qP M (Z5 M.T l)).T=Z5 M.T l:=(EB (T2:=Z5 M.T l) (J1 M.T (Z5 M.T l)) { M with T:=Z5 M.T l }).1;refine i.act λa m=>?_;rcases (Qbl (Z5 M.T l) a (V5 (qP M (Z5 M.T l))) []).1 m with e|⟨e,j⟩;cases e;obtain⟨n,q,p,s⟩:=(EI i).1 e;have d:=i.some q;refine⟨n.c,d,p,?_⟩;rw[o]at d;rw[d]at j;exact j;exact I
def QlM(l:List Int)(M:Qn):(Wu M l).Qc=M.Qc:=(Er l M).2.2.2.2.2.2.1
def QDu(M:Qn)(a:Int):(XT M a).Qc=M.Qc:=by unfold XT;split;exact(Iq _ _).2.2.2.1;rfl
def QDv(M:Qn)(a)(r:Bool):(XU M a r).Qc=M.Qc:=by
 unfold XU;dsimp only;rw[QlM];have b:(Wv ((up M.T a).foldl (VO ((Qz M a).q.l.headD default).len.toNat) (Ww M a)) a ((Qz M a).q.l.headD default).len r).Qc=M.Qc:=by rw[(Rs _ _ _ _).2.2.2.2.1,(NC _ _ _).2.2.2.2.1];rfl
 split;rw[QDu,b];exact b
def QlN(M:Qn)(b c)(a:Int):(WW M b c a).Qc=M.Qc:=by unfold WW;split<;>rfl
def QDw(M:Qn)(b c)(a:Int):(qd M b c a).Qc=M.Qc:=by unfold qd;split;rw[QlM,(Im _ _ _).2.2.2.2.1];exact QlN M b c a;exact QlN M b c a
def QDx(M:Qn)(a b)(x:Pk):(VE M a b x).Qc=M.Qc:=by unfold VE;split;rfl;split;split;rw[QDw];rfl;rfl;rfl
def Qbs(M:Qn)(a:Nat):(ZA M a).Qc=M.Qc\/((ZA M a).Qc=a/\a<=4611686018427387904):=by unfold ZA;split;rename_i h;exact .inr ⟨rfl,(QDc h).2⟩;exact .inl rfl
def QlO{M:Qn}(I:QB M)(V:Inv M){now}(c:now<=4611686018427387904)(e:M.Qc<=now):Wn M now=decide (Vm M<=now/\Vm M<9223372036854775808):=by
 have b:xp M now=true:=by unfold xp;simp only[qV,EP,G2];omega
 have a:=QC6 (Af I now) (V.told now) c (Gz (ZA M now) now);have d:Vm (ZA M now)=Vm M:=by unfold ZA;split<;>rfl
 rw[d]at a;unfold Wn XH;rw[Qe b,wz,a,W3];omega
def Wf(M:Qn):Nat:=(M.T.map λc=>(Q4 M c.iD).length).sum
def QlP{f f':Int->Nat}{q:Int}:∀{l:List Ql},(l.map (·.iD)).Nodup->q∈l.map (·.iD)->f' q+1=f q->(∀j,j≠q->f' j=f j)->(l.map λc=>f' c.iD).sum+1=(l.map λc=>f c.iD).sum
 | [],_,h,_,_=>by cases h
 | a::l,b,h,k,d=>by simp only[Jr,Z6,j9]at b ⊢;by_cases e:a.iD=q;have g:(l.map λc=>f' c.iD)=l.map λc=>f c.iD:=AB λc i=>d _ λm=>b.1 (by rw[e,<-m];exact Jw.2 ⟨c,i,rfl⟩);rw[g,e];omega;have n:=QlP b.2 ((QK.1 h).resolve_left λg=>e g.symm) k d;rw[d _ e];omega
def RK(M:Qn)(a:Nat):(takeN M a).T=M.T:=by unfold takeN;split;exact(xq M a).2.1;rw[QDq];exact(xq M a).2.1
def QDy{M}(I:QB M)(V:Inv M){c}(h:Wn M c=true):Wf (takeN M c)+1=Wf M:=by
 obtain⟨x,l,d,p⟩:=RJ I V h;unfold Wf;rw[RK];have o:(M.T.map (·.iD)).Nodup:=by have h:M.T.Pairwise (λa b=>a.iD<b.iD):=I.tree.rising;rw[nW,Su];exact h.imp λr=>ω
 refine QlP (q:=Jc M c) (f:=λj=>(Q4 M j).length) (f':=λj=>(Q4 (takeN M c) j).length) o ?_ ?_ λj i=>?_;unfold Q4 Qz at d;cases g:Qi M.N (Jc M c) with
 | none=>rw[g]at d;cases d
 | some n=>obtain⟨m,k⟩:=(VK I.tree.rising).1 (I.some g);exact Jw.2 ⟨n.c,m,k⟩
 rw[Db,Qe ⟨h,rfl⟩,d];simp;rw[Db,Qd λe=>i e.2.symm]
def Yu(b a c:Nat):Nat:=min (max (max b a) c) 9223372036854775808
def QDz{M:Qn}(I:QB M)(V:Inv M){a until_ b}(e:M.Qc<=a)(d:b<=4611686018427387904)(h:Yu a until_ (Vm M)<=b):
  Wn M (Yu a until_ (Vm M))=true/\until_<=Yu a until_ (Vm M)/\a<=Yu a until_ (Vm M):=by
 have f:Yu a until_ (Vm M)=max (max a until_) (Vm M):=by unfold Yu at h ⊢;omega
 have c:=QlO I V (now:=Yu a until_ (Vm M)) ω ω;rw[c];refine⟨QY ⟨ω,ω⟩,ω,ω⟩
def QDA{M}(I:QB M){b l}(a:∀c∈l,Jj.Ok c):Vm (Kp M b l)=Vm M:=by
 unfold Kp;split;have d:(wm M (Z5 M.T l)).Lv=M.Lv:=(EB (T2:=Z5 M.T l) (J1 M.T (Z5 M.T l)) { M with T:=Z5 M.T l }).2.1;have e:(wm M (Z5 M.T l)).KT 0=M.KT 0:=by have f:=(Re I.tree I.xn a).1;exact Qbk 0 (J1 M.T (Z5 M.T l)) { M with T:=Z5 M.T l } λh=>Ih.1 h (by rw[FR I.tree,FR f])
 unfold Vm;rw[d,e];rfl
structure kZ where
 p:Nat
 b:Nat
 r:Nat
 w:Nat
 l:Nat
instance:Inhabited kZ:=⟨⟨0,0,0,0,0⟩⟩
def kZ.Ok(r:kZ):Prop:=r.p<18446744073709551616/\r.b<18446744073709551616/\r.r<18446744073709551616/\r.w<18446744073709551616/\r.l<18446744073709551616
structure EJ where
 Jq:Int->List Nat
 rows:Int->kZ
def wu(s:EJ)(a:Int)(b:Nat):EJ:={ s with Jq:=λk=>if k=a then s.Jq k++[b] else s.Jq k }
def An(r:kZ)(a done:Nat)(b:Int)(c:Bool):kZ:=
 ⟨(r.p+1)%18446744073709551616,(r.b+b.toNat)%18446744073709551616,if c=true then (r.r+1)%18446744073709551616 else r.r,(r.w+(done-a))%18446744073709551616,max r.l (done-a)⟩
def qQ(s:EJ)(c:Int)(done:Nat)(b:Int)(d:Bool):EJ:=match s.Jq c with
 | []=>s
 | a::l=>if b<1 then s else if done<a then s else
  ⟨λk=>if k=c then l else s.Jq k,λk=>if k=c then An (s.rows k) a done b d else s.rows k⟩
def Z1(x:Pk):List Int:=[x.xX,x.xY,x.xZ,x.x5]
def J6.mask(r:J6):List Int:=[r.Ba,r.Bb,r.FG,r.DS]
def J6.want(r:J6):List Int:=[r.Mn,r.Mp,r.Mq,r.FH]
def xw(a b:Int):Int:=bits .and .u16 a b
def aN(h m:List Int):List Int:=List.zipWith xw h m
def jo(r:J6)(h:List Int):Bool:=aN h r.mask==r.want
def Ao(r:J6):Bool:=decide (1<=r.cls)&&decide (r.cls<=65536)&&(aN r.want r.mask==r.want)
def Kc(R:List J6)(h:List Int):Int:=match R.find? λr=>jo r h with
 | some r=>r.cls
 | none=>0
def zK(R:List J6):Int:=if 32<R.length then 2 else if R.all Ao=true then 0 else 1
structure Zy where
 M:Qn
 Ja:Nat
 R:List J6
 st:EJ
 Qc:Nat
 ops:Nat
def WI(c:Cf)(a:Int):Nat:=a.toNat*c.t.toNat
def Xs(c b:Nat)(a:Int)(x:Pk):Ev:=⟨c,true,false,b,0,a,x.iD,x.len,x.xX,x.xY,x.xZ,x.x5⟩
def Dc(d:Nat)(a:Bool)(c done:Nat)(b:Int)(x:Pk):Ev:=⟨d,false,a,c,done,b,x.iD,x.len,x.xX,x.xY,x.xZ,x.x5⟩
def Z2(S:Zy)(b a:Nat):Zy × List Ev:=
 if a<S.Ja then (S,[]) else
 if Wn S.M a=true then
  ({ S with M:=takeN S.M a,Ja:=a+WI S.M.lk (JA S.M a).len,st:=qQ S.st (Jc S.M a) (a+WI S.M.lk (JA S.M a).len) (JA S.M a).len (WY S.M a) },
   [Dc b (WY S.M a) a (a+WI S.M.lk (JA S.M a).len) (Jc S.M a) (JA S.M a)])
 else ({ S with M:=takeN S.M a },[])
def Zf(S:Zy):Nat:=Yu S.Qc S.Ja (Vm S.M)
def K7(c e:Nat):Nat->Zy->Zy × List Ev
 | 0,S=>({ S with Qc:=e },[])
 | n+1,S=>if e<Zf S then ({ S with Qc:=e },[]) else
  let a:=Z2 { S with Qc:=Zf S } c (Zf S);let b:=K7 c e n a.1
  (b.1,a.2++b.2)
structure qh where
 err:Int
 place:Int
 cls:Int
instance:Inhabited qh:=⟨⟨0,0,0⟩⟩
structure NM where
 S:Zy
 r:qh
 l:List Ev
def qi(S:Zy)(b a:Nat):NM:=
 if 4611686018427387904-S.Qc<a then ⟨S,⟨27,0,0⟩,[]⟩ else
 ⟨(K7 b (S.Qc+a) (Wf S.M+1) S).1,⟨0,0,0⟩,(K7 b (S.Qc+a) (Wf S.M+1) S).2⟩
def Yv(S:Zy)(b:Nat)(x:Pk):NM:=
 if Kc S.R (Z1 x)=0 then ⟨S,⟨31,0,0⟩,[]⟩ else
 if qO S.M S.Qc (Kc S.R (Z1 x)) x=0 then
  let a:=Z2 { S with M:=Zx S.M S.Qc (Kc S.R (Z1 x)) x,st:=wu S.st (Kc S.R (Z1 x)) S.Qc } b S.Qc
  ⟨a.1,⟨0,0,Kc S.R (Z1 x)⟩,Xs b S.Qc (Kc S.R (Z1 x)) x::a.2⟩
 else ⟨{ S with M:=Zx S.M S.Qc (Kc S.R (Z1 x)) x },⟨qO S.M S.Qc (Kc S.R (Z1 x)) x,0,Kc S.R (Z1 x)⟩,[]⟩
def K8(S:Zy)(a:Nat)(o:Zt):NM:=
 if o.kind=1 then ⟨{ S with M:=Kp S.M (decide (S.Ja<=S.Qc)) o.changes },⟨qf S.M (decide (S.Ja<=S.Qc)) o.changes,Aj S.M o.changes,0⟩,[]⟩
 else if o.kind=2 then (if zK o.rules=0 then ⟨{ S with R:=o.rules },⟨0,0,0⟩,[]⟩ else ⟨S,⟨zK o.rules,0,0⟩,[]⟩)
 else if o.kind=3 then Yv S a o.ZG
 else if o.kind=4 then qi S a o.Vw.toNat
 else ⟨S,⟨1,0,0⟩,[]⟩
def J3(S:Zy)(o:Zt):NM:=K8 { S with ops:=S.ops+1 } S.ops o
def S0(c:Cf):Zy:=⟨M0 c,0,[],⟨λ_=>[],λ_=>default⟩,0,0⟩
def Za(S:Zy):List Zt->Zy × List qh × List Ev
 | []=>(S,[],[])
 | o::l=>((Za (J3 S o).S l).1,(J3 S o).r::(Za (J3 S o).S l).2.1,(J3 S o).l++(Za (J3 S o).S l).2.2)
def Qbt:∀(l m:List Zt) (S:Zy),Za S (l++m)=((Za (Za S l).1 m).1,(Za S l).2.1++(Za (Za S l).1 m).2.1,(Za S l).2.2++(Za (Za S l).1 m).2.2)
 | [],m,S=>rfl
 | o::l,m,S=>by simp only[qs,Za,Qbt l m,WJ]
structure ZQ (S:Zy):Prop where
 I:QB S.M
 V:Inv S.M
 K:Wm S.M.lk
 len:∀j,∀x∈Q4 S.M j,1<=x.len/\x.len<=S.M.lk.Ze
 mc:S.M.Qc<=S.Qc
 cl:S.Qc<=4611686018427387904
 un:S.Ja<=4611686018427387904+1073741824
 st:∀k,(S.st.rows k).Ok
 ca:∀k,∀a∈S.st.Jq k,a<18446744073709551616
def QlQ{P:List Pk->Prop}(d:P [])(f:List Ql)(b:Int):∀(L:List Int) (M:Qn),(∀n,Qi M.N b=some n->P n.q.l)->∀n,Qi (L.foldl (J2 f) M).N b=some n->P n.q.l
 | [],M,h=>h
 | i::L,M,h=>QlQ d f b L _ λn a=>by
  have e:∀(k:Ql),Qi (Yd k::jQ M.N i) b=some n->P n.q.l:=λk a=>by unfold Qi at a;rw[vm]at a;split at a;cases a;exact d;have c:Qi (jQ M.N i) b=some n:=a;rw[CX]at c;split at c;cases c;exact h n c
  unfold J2 at a;split at a;rw[CX]at a;split at a;cases a;exact h n a;split at a;exact e _ a;exact e _ a
def QDB{P:List Pk->Prop}(b:P []){M:Qn}{j:Int}(h:P (Q4 M j))(n:Nd)(a:Qi M.N j=some n):P n.q.l:=by unfold Q4 Qz at h;rw[a]at h;exact h
def QlR{P:List Pk->Prop}(a:P []){M:Qn}(b:Bool)(l:List Jj){j:Int}(h:P (Q4 M j)):P (Q4 (Kp M b l) j):=by
 unfold Kp;split;have m:∀id,P (Q4 M id)->P (Qz (VV M (Z5 M.T l)) id).q.l:=λid o=>by
  unfold Qz VV;cases c:Qi ((J1 M.T (Z5 M.T l)).foldl (J2 (Z5 M.T l)) { M with T:=Z5 M.T l }).N id with
  | none=>exact a
  | some n=>exact QlQ a _ id _ { M with T:=Z5 M.T l } (QDB a o) n c
 unfold Q4 Qz;show P ((Qi (XV M (Z5 M.T l)) j).getD default).q.l;cases c:Qi (XV M (Z5 M.T l)) j with
 | none=>exact a
 | some n=>
  have g:n∈XV M (Z5 M.T l):=xG c;have i:=yy c;obtain⟨k,p,rfl⟩:=Jw.1 g;have d:k.iD=j\/(Qz (VV M (Z5 M.T l)) k.iD).q.l=[]:=by
   by_cases e:(Qz (VV M (Z5 M.T l)) k.iD).c.iD=k.iD;left;rw[<-e];simpa using i;right;unfold Qz at e ⊢;cases f:Qi (VV M (Z5 M.T l)).N k.iD with
   | none=>rfl
   | some n=>rw[f]at e;have:=yy f;exact absurd (zC this) e
  rcases d with rfl|d;exact m _ h;show P (Qz (VV M (Z5 M.T l)) k.iD).q.l;rw[d];exact a
 exact h
def QDC{r:kZ}(h:r.Ok){a done}(e:done<18446744073709551616)(b)(c:Bool):(An r a done b c).Ok:=by obtain⟨j,i,d,g,f⟩:=h;unfold An;refine⟨Xt _ π,Xt _ π,?_,Xt _ π,?_⟩;dsimp only;split;exact Xt _ π;exact d;dsimp only;omega
def yr(M:Qn)(a:Nat):(takeN M a).lk=M.lk:=QlI M a
def QDD(M:Qn)(a:Nat):(takeN M a).Qc=M.Qc\/((takeN M a).Qc=a/\a<=4611686018427387904):=by unfold takeN;split;exact Qbs M _;rw[QDv];exact Qbs M _
def QDE(M:Qn)(a b)(x:Pk):(Zx M a b x).Qc=M.Qc\/((Zx M a b x).Qc=a/\a<=4611686018427387904):=by unfold Zx;split;rw[QDx];exact Qbs M _;exact .inl rfl
def QDF(M:Qn)(b)(l:List Jj):(Kp M b l).Qc=M.Qc:=by unfold Kp;split;exact(EB _ _).2.2.2.1;rfl
def Qbu{M:Qn}{a b}{x:Pk}(h:qO M a b x=0):1<=x.len/\x.len<=M.lk.Ze:=by unfold qO at h;split at h;have c:(ZA M a).lk=M.lk:=mP M a;unfold VP at h;split at h;cases h;split at h;cases h;split at h;cases h;rename_i d;rw[c]at d;omega;cases h
def QDG{s:EJ}(h:(∀k,(s.rows k).Ok)/\∀k,∀a∈s.Jq k,a<18446744073709551616)(c){done}(f:done<18446744073709551616)(b)(d:Bool):(∀k,((qQ s c done b d).rows k).Ok)/\∀k,∀a∈(qQ s c done b d).Jq k,a<18446744073709551616:=by
 unfold qQ;cases g:s.Jq c with
 | nil=>exact h
 | cons a l=>dsimp only;split;exact h;split;exact h;refine⟨λk=>?_,λk x hx=>?_⟩;dsimp only;split;exact QDC (h.1 k) f _ _;exact h.1 k;dsimp only at hx;split at hx;rename_i e;exact h.2 c x (by rw[g];exact Js _ hx);exact h.2 k x hx
def IF{c:Cf}(K:Wm c){a}(h:1<=a/\a<=c.Ze):1<=WI c a/\WI c a<=1073741824:=by have j:=K.t1;have i:=K.t2;have g:=K.l2;unfold WI;have f:1<=a.toNat:=ω;have e:a.toNat<=16384:=ω;have d:1<=c.t.toNat:=ω;have b:c.t.toNat<=65536:=ω;exact⟨Xk f d,Xk e b⟩
def ZQ.take_len{S:Zy}(T:ZQ S){a:Nat}(h:Wn S.M a=true):1<=(JA S.M a).len/\(JA S.M a).len<=S.M.lk.Ze:=by obtain⟨x,l,c,b⟩:=RJ T.I T.V h;rw[b];exact T.len _ x (by rw[c];exact Jo)
def ZQ.takeN{S:Zy}(T:ZQ S):ZQ { S with M:=takeN S.M S.Qc } where
 I:=T.I.takeN T.V _
 V:=T.V.takeN T.I _
 K:=by show Wm (X.takeN S.M S.Qc).lk;rw[yr];exact T.K
 len:=λj x hx=>by have hx:x∈Q4 (X.takeN S.M S.Qc) j:=hx;show 1<=x.len/\x.len<=(X.takeN S.M S.Qc).lk.Ze;rw[yr];rw[Db]at hx;split at hx;exact T.len j x (List.mem_of_mem_tail hx);exact T.len j x hx
 mc:=by show (X.takeN S.M S.Qc).Qc<=S.Qc;have:=T.mc;rcases QDD S.M S.Qc with h|h<;>omega
 cl:=T.cl
 un:=T.un
 st:=T.st
 ca:=T.ca
def ZQ.IG{S:Zy}(T:ZQ S)(c):ZQ (Z2 S c S.Qc).1:=by
 unfold Z2;split;exact T
 .split
  .rename_i h;have e:=IF T.K (T.take_len h);have d:=T.cl;have a:=T.takeN;have b:=QDG ⟨T.st,T.ca⟩ (Jc S.M S.Qc) (done:=S.Qc+WI S.M.lk (JA S.M S.Qc).len) ω (JA S.M S.Qc).len (WY S.M S.Qc);exact⟨a.I,a.V,a.K,a.len,a.mc,T.cl,by dsimp only;omega,b.1,b.2⟩
  exact T.takeN
def ZQ.at_{S:Zy}(T:ZQ S){e}(b:S.Qc<=e)(a:e<=4611686018427387904):ZQ { S with Qc:=e }:=
 ⟨T.I,T.V,T.K,T.len,J5 T.mc b,a,T.un,T.st,T.ca⟩
def II(S:Zy)(b a:Nat):(Z2 S b a).1.Qc=S.Qc/\(Z2 S b a).1.ops=S.ops/\(Z2 S b a).1.R=S.R:=by unfold Z2;split;exact⟨rfl,rfl,rfl⟩;split<;>exact⟨rfl,rfl,rfl⟩
def aO(S:Zy)(h:S.Qc<=4611686018427387904):S.Qc<=Zf S:=by unfold Zf Yu;omega
def ZQ.go{a e}(b:e<=4611686018427387904):∀(n:Nat) {S:Zy},ZQ S->S.Qc<=e->ZQ (K7 a e n S).1
 | 0,S,T,h=>T.at_ h b
 | n+1,S,T,h=>by unfold K7;split;exact T.at_ h b;rename_i d;have c:=(T.at_ (aO S T.cl) (show Zf S<=4611686018427387904 from ω)).IG a;refine ZQ.go b n c ?_;have:=(II { S with Qc:=Zf S } a (Zf S)).1;rw[this];show Zf S<=e;omega
def ZQ.put{S:Zy}(T:ZQ S)(a x):ZQ { S with M:=Zx S.M S.Qc a x } where
 I:=T.I.Zx T.V _ (by have:=T.cl;omega) _ _
 V:=T.V.Zx T.I _ (by have:=T.cl;omega) _ _
 K:=by show Wm (Zx S.M S.Qc a x).lk;rw[BA];exact T.K
 len:=λj y b=>by have b:y∈Q4 (Zx S.M S.Qc a x) j:=b;show 1<=y.len/\y.len<=(Zx S.M S.Qc a x).lk.Ze;rw[BA];rw[NK]at b;split at b;rename_i h;rcases Q3.1 b with h2|h2;exact T.len j y h2;simp only[Xj]at h2;subst h2;exact Qbu h.1;exact T.len j y b
 mc:=by show (Zx S.M S.Qc a x).Qc<=S.Qc;have:=T.mc;rcases QDE S.M S.Qc a x with h|h<;>omega
 cl:=T.cl
 un:=T.un
 st:=T.st
 ca:=T.ca
def ZQ.Jq{S:Zy}(T:ZQ S)(d a)(e:a<18446744073709551616):ZQ { S with st:=wu S.st d a }:=
 ⟨T.I,T.V,T.K,T.len,T.mc,T.cl,T.un,T.st,λk b c=>by have c:b∈(if k=d then S.st.Jq k++[a] else S.st.Jq k):=c;split at c;rcases Q3.1 c with h|h;exact T.ca k b h;simp only[Xj]at h;omega;exact T.ca k b c⟩
def ZQ.change{S:Zy}(T:ZQ S)(b){l}(a:∀c∈l,Jj.Ok c):ZQ { S with M:=Kp S.M b l } where
 I:=T.I.Kp T.V b l a
 V:=T.V.Kp T.I b l a
 K:=by show Wm (Kp S.M b l).lk;rw[RI];exact T.K
 len:=λj=>by show ∀x∈Q4 (Kp S.M b l) j,1<=x.len/\x.len<=(Kp S.M b l).lk.Ze;rw[RI];exact QlR (P:=λq=>∀x∈q,1<=x.len/\x.len<=S.M.lk.Ze) (λx hx=>by cases hx) b l (T.len j)
 mc:=by show (Kp S.M b l).Qc<=S.Qc;rw[QDF];exact T.mc
 cl:=T.cl
 un:=T.un
 st:=T.st
 ca:=T.ca
def ZQ.one{S}(T:ZQ S)(a){o:Zt}(b:∀c∈o.changes,Jj.Ok c):ZQ (K8 S a o).S:=by unfold K8;split;exact T.change _ b;split;split;exact⟨T.I,T.V,T.K,T.len,T.mc,T.cl,T.un,T.st,T.ca⟩;exact T;split;unfold Yv;split;exact T;split;exact ZQ.IG (S:={ S with M:=Zx S.M S.Qc (Kc S.R (Z1 o.ZG)) o.ZG,st:=wu S.st (Kc S.R (Z1 o.ZG)) S.Qc }) ((T.put _ _).Jq _ _ (by have:=T.cl;show S.Qc<_;omega)) a;exact T.put _ _;split;unfold qi;split;exact T;have:=T.cl;exact T.go ω _ ω;exact T
def ZQ.ops{S}(T:ZQ S)(n):ZQ { S with ops:=n }:=⟨T.I,T.V,T.K,T.len,T.mc,T.cl,T.un,T.st,T.ca⟩
def ZQ.do{S}(T:ZQ S){o:Zt}(a:∀c∈o.changes,Jj.Ok c):ZQ (J3 S o).S:=(T.ops _).one _ a
def mR(a e):∀(n:Nat) (S:Zy),(K7 a e n S).1.ops=S.ops/\(K7 a e n S).1.Qc=e
 | 0,S=>⟨rfl,rfl⟩
 | n+1,S=>by unfold K7;split;exact⟨rfl,rfl⟩;obtain⟨c,b⟩:=mR a e n (Z2 { S with Qc:=Zf S } a (Zf S)).1;exact⟨c.trans (II _ _ _).2.1,b⟩
def QDH(S:Zy)(a)(o:Zt):(K8 S a o).S.ops=S.ops:=by unfold K8;split;rfl;split;split<;>rfl;split;unfold Yv;split;rfl;split;exact(II _ _ _).2.1;rfl;split;unfold qi;split;rfl;exact(mR _ _ _ _).1;rfl
def Qbv(S:Zy)(o:Zt):(J3 S o).S.ops=S.ops+1:=QDH _ _ _
def ahead(b:Int):Int->List Ev->Prop
 | _,[]=>True
 | a,v::l=>a<=v.at_/\v.at_<=b/\(v.Jz=true->v.done=0)/\(v.Jz=false->v.at_<v.done)/\ahead b v.at_ l
def ahead.lo{c a b}(h:b<=a):∀{l:List Ev},ahead c a l->ahead c b l
 | [],_=>trivial
 | _::_,⟨e,d⟩=>⟨ω,d⟩
def QlS{S:Zy}(T:ZQ S)(a):(Z2 S a S.Qc).2=[]\/∃v,(Z2 S a S.Qc).2=[v]/\v.at_=S.Qc/\v.Jz=false/\v.at_<v.done:=by unfold Z2;split;exact .inl rfl;split;rename_i h;have b:=IF T.K (T.take_len h);refine .inr ⟨_,rfl,rfl,rfl,?_⟩;show ((S.Qc:Nat):Int)<((S.Qc+WI S.M.lk (JA S.M S.Qc).len:Nat):Int);omega;exact .inl rfl
def QDI{M a}(h:Wn M a=false):Vm (takeN M a)=Vm M:=by
 unfold takeN;unfold Wn at h;cases b:XH M a with
 | none=>show Vm (ZA M a)=Vm M;unfold ZA;split<;>rfl
 | some x=>rw[b]at h;cases h
def QlT{S:Zy}(T:ZQ S)(c):S.Qc<Zf (Z2 S c S.Qc).1:=by
 have e:=T.cl;have d:=T.un;unfold Z2;split;show S.Qc<Yu S.Qc S.Ja (Vm S.M);unfold Yu;omega;split;rename_i h;have g:=IF T.K (T.take_len h);show S.Qc<Yu S.Qc (S.Qc+WI S.M.lk (JA S.M S.Qc).len) _;unfold Yu;omega;rename_i h;have b:Wn S.M S.Qc=false:=by simpa using h
 have a:=QlO T.I T.V (now:=S.Qc) ω T.mc;rw[b]at a;have f:¬(Vm S.M<=S.Qc/\Vm S.M<9223372036854775808):=by simpa using a
 show S.Qc<Yu S.Qc S.Ja (Vm (takeN S.M S.Qc));rw[QDI b];unfold Yu;omega
def QlU{S}(T:ZQ S)(a){e}(d:e<=4611686018427387904)(h:Zf S<=e):
  ZQ (Z2 { S with Qc:=Zf S } a (Zf S)).1/\Wf (Z2 { S with Qc:=Zf S } a (Zf S)).1.M+1=Wf S.M/\S.Qc<=Zf S/\(Z2 { S with Qc:=Zf S } a (Zf S)).1.Qc=Zf S:=by
 obtain⟨b,c,f⟩:=QDz T.I T.V (until_:=S.Ja) T.mc d h;have g:=(T.at_ (aO S T.cl) (show Zf S<=4611686018427387904 from ω));refine⟨g.IG a,?_,f,(II _ _ _).1⟩;have b:Wn S.M (Zf S)=true:=b;have c:S.Ja<=Zf S:=c;unfold Z2;rw[Qd (show ¬Zf S<S.Ja from ω)];show Wf (if Wn S.M (Zf S)=true then _ else _:Zy × List Ev).1.M+1=Wf S.M;rw[Qe b];exact QDy T.I T.V b
def QlV{op e}(i:e<=4611686018427387904):∀(n:Nat) {S:Zy},ZQ S->S.Qc<=e->Wf S.M<n->e<Zf (K7 op e n S).1/\ahead e S.Qc (K7 op e n S).2
 | 0,S,T,h,f=>absurd f (Yy _)
 | n+1,S,T,h,f=>by unfold K7;split;rename_i b;refine⟨?_,trivial⟩;unfold Zf Yu at b ⊢;dsimp only;omega;rename_i b;have b:Zf S<=e:=ω;dsimp only;obtain⟨o,q,c2,j⟩:=QlU T op i b;obtain⟨k,c⟩:=QlV i n o (by rw[j];exact b) ω;refine⟨k,?_⟩;rw[j]at c;have p:=(T.at_ (aO S T.cl) (show Zf S<=4611686018427387904 from ω));rcases QlS p op with a|⟨v,a,d,m,l⟩;have a:(Z2 { S with Qc:=Zf S } op (Zf S)).2=[]:=a;rw[a,qv];exact c.lo ω;have a:(Z2 { S with Qc:=Zf S } op (Zf S)).2=[v]:=a;have d:v.at_=((Zf S:Nat):Int):=d;rw[a,qs,qv];refine⟨ω,ω,λg=>(by rw[m]at g;cases g),λ_=>l,?_⟩;show ahead e v.at_ _;rw[d];exact c
def QlW(M a):Vm (ZA M a)=Vm M:=by unfold ZA;split<;>rfl
def QDJ{M a b x}(h:¬qO M a b x=0):Vm (Zx M a b x)=Vm M:=by unfold qO at h;unfold Zx;split;rename_i c;rw[Qe c]at h;unfold VE;split;exact QlW M a;exact QlW M a;rfl
structure Qbw (S:Zy) (D:NM):Prop where
 next:D.S.Qc<Zf D.S
 Qc:S.Qc<=D.S.Qc
 ev:ahead D.S.Qc S.Qc D.l
def QDK{S:Zy}(T:ZQ S)(f:S.Qc<Zf S)(b){o:Zt}(m:∀c∈o.changes,Jj.Ok c):Qbw S (K8 S b o):=by have a:∀r,Qbw S ⟨S,r,[]⟩:=λr=>⟨f,Qv _,trivial⟩;unfold K8;split;refine⟨?_,Qv _,trivial⟩;show S.Qc<Yu S.Qc S.Ja (Vm (Kp S.M _ _));rw[QDA T.I m];exact f;split;split;exact⟨f,Qv _,trivial⟩;exact a _;split;unfold Yv;split;exact a _;split;have l:=(T.put (Kc S.R (Z1 o.ZG)) o.ZG).Jq (Kc S.R (Z1 o.ZG)) S.Qc (by have:=T.cl;omega);have j:=QlT l b;have d:=(II { S with M:=Zx S.M S.Qc (Kc S.R (Z1 o.ZG)) o.ZG,st:=wu S.st (Kc S.R (Z1 o.ZG)) S.Qc } b S.Qc).1;refine⟨?_,?_,?_⟩;dsimp only;rw[d];exact j;dsimp only;rw[d];exact Qv _;dsimp only;rw[d];refine⟨qW _,qW _,λ_=>rfl,λh=>(by cases h),?_⟩;rcases QlS l b with g|⟨v,g,k,q,p⟩;rw[show (Z2 _ b S.Qc).2=[] from g];trivial;rw[show (Z2 _ b S.Qc).2=[v] from g];have k:v.at_=((S.Qc:Nat):Int):=k;exact⟨by show (S.Qc:Int)<=_;omega,by show _<=(S.Qc:Int);omega,λi=>(by rw[q]at i;cases i),λ_=>p,trivial⟩;rename_i j n;refine⟨?_,Qv _,trivial⟩;show S.Qc<Yu S.Qc S.Ja (Vm (Zx S.M S.Qc _ _));rw[QDJ n];exact f;split;unfold qi;split;exact a _;have s:=T.cl;have:=QlV (op:=b) (e:=S.Qc+o.Vw.toNat) ω (Wf S.M+1) T ω ω;have d:=(mR b (S.Qc+o.Vw.toNat) (Wf S.M+1) S).2;refine⟨?_,?_,?_⟩;dsimp only;rw[d];exact this.1;dsimp only;rw[d];omega;dsimp only;rw[d];exact this.2;exact a _
def QlX{S:Zy}(T:ZQ S)(a:S.Qc<Zf S){o:Zt}(b:∀c∈o.changes,Jj.Ok c):Qbw S (J3 S o):=by have:=QDK (T.ops (S.ops+1)) a S.ops b;exact⟨this.next,this.Qc,this.ev⟩
def zL(r:J6):Bool:=r.Ba==65535&&(r.Bb==65535&&(r.FG==65535&&r.DS==65535))
def aP(n:Int):Prop:=0<=n/\n<65536
def mS{a}(h:aP a):xw a 65535=a:=by
 obtain⟨n,rfl⟩:∃n:Nat,a=n:=⟨a.toNat,by have:=h.1;omega⟩;have c:n<65536:=by have:=h.2;omega
 have b:(BitVec.ofInt 16 (n:Int)).toNat=n:=by rw[BitVec.ofInt_natCast,BitVec.toNat_ofNat];exact kg ω
 show IntKind.u16.wrap ((BitVec.ofInt 16 (n:Int) &&& BitVec.ofInt 16 65535).toNat:Int)=_;rw[BitVec.toNat_and,b,show (BitVec.ofInt 16 65535).toNat=2^16-1 from rfl,Nat.and_two_pow_sub_one_eq_mod];rw[show IntKind.u16.wrap ((n%2^16:Nat):Int)=((n%2^16:Nat):Int)%65536 by simp[IntKind.wrap,IntKind.bits,IntKind.signed]];omega
def JS(R:List J6)(i:Nat):J6:=R.getD i default
def Qbx(p:J6->Bool):∀(R:List J6) (i:Nat),i<R.length->p (JS R i)=true->(∀j,j<i->p (JS R j)=false)->R.find? p=some (JS R i)
 | [],i,b,_,_=>by simp at b
 | r::R,0,b,a,_=>by have a:p r=true:=a;rw[vm,a];rfl
 | r::R,i+1,b,a,c=>by have d:p r=false:=c 0 ω;rw[vm,d];exact Qbx p R i (zC b) a λj e=>c (j+1) ω
def QlY(p:J6->Bool):∀(R:List J6),(∀j,j<R.length->p (JS R j)=false)->R.find? p=none
 | [],_=>rfl
 | r::R,a=>by have c:p r=false:=a 0 σ;rw[vm,c];exact QlY p R λj b=>a (j+1) (zC b)
structure qk (R:List J6) (n:Nat) (es:List X0) (ms:List Nat):Prop where
 yes:∀k d,Xy es k=some d->∃i:Nat,d=Qa i/\i<n/\zL (JS R i)=true/\(JS R i).want=k/\∀j,j<i->¬(zL (JS R j)=true/\(JS R j).want=k)
 no:∀k,Xy es k=none->∀j,j<n->¬(zL (JS R j)=true/\(JS R j).want=k)
 mem:∀j,j∈ms↔j<n/\zL (JS R j)=false
 inc:ms.Pairwise (·<·)
 four:∀e∈es,e.k.length=4
def qk.nil(R:List J6):qk R 0 [] []:=⟨λk d h=>(by cases h),λk h j a=>absurd a (Yy j),λj=>σ,.nil,λe h=>(by cases h)⟩
def Qby:∀(a:List X0) (e:X0) (k:List Int),Xy (a++[e]) k=match Xy a k with
  | some d=>some d
  | none=>if e.k=k then some e.v else none
 | [],e,k=>by simp[Xy]
 | x::a,e,k=>by simp only[qs,Xy];split;rfl;exact Qby a e k
def qk.mask{R n l g}(T:qk R n l g)(h:zL (JS R n)=false):qk R (n+1) l (g++[n]) where
 yes:=λk d p=>by obtain⟨i,c,e,f⟩:=T.yes k d p;exact⟨i,c,ω,f⟩
 no:=λk m j o=>by rcases xJ.1 o with c|rfl;exact T.no k m j c;exact λe=>by rw[h]at e;cases e.1
 mem:=λj=>by rw[Q3,T.mem j,Xj];constructor;rintro (c|rfl);exact⟨ω,c.2⟩;exact⟨ω,h⟩;rintro⟨c,e⟩;rcases xJ.1 c with f|rfl;exact .inl ⟨f,e⟩;exact .inr rfl
 inc:=by
  rw[bY];exact⟨T.inc,List.pairwise_singleton _ _,λa r b q=>by simp only[Xj]at q;have:=((T.mem a).1 r).1;omega⟩
 four:=T.four
def qk.QlZ{R n e b}(T:qk R n e b)(h:zL (JS R n)=true):∀j,j∈b↔j<n+1/\zL (JS R j)=false:=λj=>by rw[T.mem j];constructor;rintro⟨c,a⟩;exact⟨ω,a⟩;rintro⟨c,a⟩;rcases xJ.1 c with d|rfl;exact⟨d,a⟩;rw[h]at a;cases a
def qk.there{R}{n:Nat}{e f}(T:qk R n e f)(h:zL (JS R n)=true)(b:(Xy e (JS R n).want).isSome=true):qk R (n+1) e f where
 yes:=λk d m=>by obtain⟨i,c,b,a⟩:=T.yes k d m;exact⟨i,c,ω,a⟩
 no:=λk g j l=>by rcases xJ.1 l with c|rfl;exact T.no k g j c;exact λa=>by rw[a.2,g]at b;cases b
 mem:=T.QlZ h
 inc:=T.inc
 four:=T.four
def qk.new{R}{n:Nat}{f o}(T:qk R n f o)(h:zL (JS R n)=true)(q:Xy f (JS R n).want=none)(c):qk R (n+1) (f++[⟨(JS R n).want,Qa n,c⟩]) o where
 yes:=λk d b=>by
  rw[Qby]at b;cases a:Xy f k with
  | some d2=>rw[a]at b;cases b;obtain⟨i,h1,q,l⟩:=T.yes k d a;exact⟨i,h1,ω,l⟩
  | none=>rw[a]at b;dsimp only at b;split at b;rename_i e;cases b;exact⟨n,rfl,ω,h,e,λj g=>T.no k a j g⟩;cases b
 no:=λk a j g=>by
  rw[Qby]at a;cases m:Xy f k with
  | some d2=>rw[m]at a;cases a
  | none=>rw[m]at a;dsimp only at a;split at a;cases a;rename_i e;rcases xJ.1 g with h1|rfl;exact T.no k m j h1;exact λl=>e l.2
 mem:=(T.QlZ h)
 inc:=T.inc
 four:=λe p=>by rcases Q3.1 p with h1|h1;exact T.four e h1;simp only[Xj]at h1;subst h1;rfl
def aQ(x:Pk):Prop:=aP x.xX/\aP x.xY/\aP x.xZ/\aP x.x5
def mT{r:J6}{x}(a:aQ x)(h:zL r=true):jo r (Z1 x)=(r.want==Z1 x):=by unfold zL at h;simp only[ZM,qZ]at h;obtain⟨e,d,c,b⟩:=h;unfold jo aN Z1 J6.mask;rw[e,d,c,b];simp only[List.zipWith_cons_cons,List.zipWith_nil_right,mS a.1,mS a.2.1,mS a.2.2.1,mS a.2.2.2];rw[wz];simp only[qZ];exact eq_comm
section
variable {R:List J6}{es:List X0}{ms:List Nat}(T:qk R R.length es ms){x:Pk}(hx:aQ x)
include T hx
theorem qk.XZ{i}(h:i<R.length)(n:zL (JS R i)=false)(f:jo (JS R i) (Z1 x)=true)(l:∀j∈ms,j<i->jo (JS R j) (Z1 x)=false)
  (m:∀a:Nat,Xy es (Z1 x)=some (Qa a)->¬a<i):R.find? (λr=>jo r (Z1 x))=some (JS R i):=
 Qbx _ R i h f λj g=>by
  cases b:zL (JS R j) with
  | false=>exact l j ((T.mem j).2 ⟨ω,b⟩) g
  | true=>
   rw[mT hx b,kh];intro e;cases c:Xy es (Z1 x) with
   | none=>exact T.no _ c j ω ⟨b,e⟩
   | some d=>obtain⟨a,rfl,q,p,o,k⟩:=T.yes _ _ c;have:=m a c;exact k j ω ⟨b,e⟩
theorem qk.whole{a:Nat}(f:Xy es (Z1 x)=some (Qa a))(l:∀j∈ms,j<a->jo (JS R j) (Z1 x)=false):a<R.length/\R.find? (λr=>jo r (Z1 x))=some (JS R a):=by
 obtain⟨i,e,d,k,h,g⟩:=T.yes _ _ f;have e:a=i:=by unfold Qa at e;simp only[D.raw.injEq,Value.int.injEq,yz]at e;omega
 subst e;refine⟨d,Qbx _ R a d (by rw[mT hx k,h];simp) λj c=>?_⟩;cases b:zL (JS R j) with
 | false=>exact l j ((T.mem j).2 ⟨ω,b⟩) c
 | true=>rw[mT hx b,kh];exact λe=>g j c ⟨b,e⟩
theorem qk.none(c:Xy es (Z1 x)=Option.none)(d:∀j∈ms,jo (JS R j) (Z1 x)=false):R.find? (λr=>jo r (Z1 x))=Option.none:=
 QlY _ R λj b=>by
  cases a:zL (JS R j) with
  | false=>exact d j ((T.mem j).2 ⟨b,a⟩)
  | true=>rw[mT hx a,kh];exact λe=>T.no _ c j b ⟨a,e⟩
end
def kZ.cells(r:kZ):List D:=[u64 r.p,u64 r.b,u64 r.r,u64 r.w,u64 r.l]
def jS(a b c d f e:Nat):Ob:=⟨.one,0,6,1,λ_=>[.ptr a 0 0 0,.ptr b 0 0 0,.ptr c 0 0 0,.ptr d 0 0 0,u64 f,Qa e]⟩
def jT(a b c:Nat)(t:Int)(u:Nat):Ob:=⟨.one,0,5,1,λ_=>[u64 a,u64 b,u64 c,Qa t,u64 u]⟩
def stO(c r:Nat):Ob:=⟨.one,0,2,1,λ_=>[.mref c 0,.mref r 0]⟩
def NN(d:D)(e:Nat)(m:D):Ob:=⟨.one,0,3,1,λ_=>[d,.mref e 0,m]⟩
attribute[go_sem]kZ.cells jS jT stO NN
inductive TT where
 | no|sys|ln|IK|st|my
deriving DecidableEq
def Ju(a:Nat->TT)(h:List Ob)(t:TT):Nat->TT:=λl=>if h.length<=l then t else a l
def VW{a}{h:List Ob}{t l}(b:l<h.length):Ju a h t l=a l:=by unfold Ju;rw[Qd ω]
def GA{a}{h:List Ob}{t l}(b:h.length<=l):Ju a h t l=t:=by unfold Ju;rw[Qe b]
def k9{a}{h:List Ob}{t l}(b:h.length<=l):Q5 a h t l=t:=by unfold Q5;rw[Qe b]
def Ye{b:Type}[Inhabited b](S:Nat->Prop)(h:List Ob)(e:Nat)(f:b->List D)(d:D)(l:List b):Prop:=
 (d=.nil/\l=[])\/∃c g a,d=.ref c g 0 l.length/\S c/\h[c]?=some ⟨.arr,g,e,l.length,a⟩/\∀i,i<l.length->a i=f (l.getD i default)
def Ye.step{a:Type}[Inhabited a]{S S':Nat->Prop}{h h':List Ob}{k:Nat}{f:a->List D}{d:D}{l:List a}(e:∀j,j<h.length->S j->S' j/\h'[j]? = h[j]?):Ye S h k f d l->Ye S' h' k f d l:=λH=>H.imp id λ⟨b,g,i,o,m,c,n⟩=>⟨b,g,i,o,(e b (Qb c) m).1,by rw[(e b (Qb c) m).2];exact c,n⟩
def NO(S:Nat->Prop)(h:List Ob)(d:D)(l:List Nat):Prop:=
 (d=.nil/\l=[])\/∃c g a b,d=.ref c g a l.length/\S c/\h[c]?=some ⟨.arr,g,1,a+l.length,b⟩/\∀i,i<l.length->b (a+i)=[u64 (l.getD i 0)]
def NO.step{S S'}{h h':List Ob}{d l}(e:∀j,j<h.length->S j->S' j/\h'[j]? = h[j]?):NO S h d l->NO S' h' d l:=λH=>H.imp id λ⟨a,g,f,c,m,i,b,k⟩=>⟨a,g,f,c,m,(e a (Qb b) i).1,by rw[(e a (Qb b) i).2];exact b,k⟩
def NO.nil{S h l}(H:NO S h .nil l):l=[]:=by rcases H with a|⟨_,_,_,_,a,_⟩;exact a.2;cases a
structure GB (S:Nat->Prop) (h:List Ob) (p cm rm c1:Nat) (ZU:List ZL) (c2:Nat) (Jl:List ZL) (s:EJ):Prop where
 o:h[p]?=some (stO cm rm)
 co:h[cm]?=some (QT .i64 c1 ZU)
 ro:h[rm]?=some (QT .i64 c2 Jl)
 ne:cm≠rm
 sp:S p
 sc:S cm
 sr:S rm
 ca:∀k,NO S h ((Je ZU k).getD .nil) (s.Jq k)
 sep:∀k k' lo g off n g' AL n',Je ZU k=some (.ref lo g off n)->Je ZU k'=some (.ref lo g' AL n')->k=k'
 rw_:∀k,(Je Jl k).getD (.agg (default:kZ).cells)=.agg (s.rows k).cells
def qR(S:Nat->Prop)(h:List Ob)(p:Nat)(s:EJ):Prop:=∃b a c d c2 e,GB S h p b a c d c2 e s
def GB.step{S S'}{h h':List Ob}{p d b g i f m s}(e:∀j,j<h.length->S j->S' j/\h'[j]? = h[j]?)(T:GB S h p d b g i f m s):GB S' h' p d b g i f m s:=
 have k:∀l o,S l->h[l]?=some o->S' l/\h'[l]?=some o:=λl o c a=>⟨(e l (Qb a) c).1,(e l (Qb a) c).2.trans a⟩
 ⟨(k _ _ T.sp T.o).2,(k _ _ T.sc T.co).2,(k _ _ T.sr T.ro).2,T.ne,(k _ _ T.sp T.o).1,(k _ _ T.sc T.co).1,(k _ _ T.sr T.ro).1,λj=>(T.ca j).step e,T.sep,T.rw_⟩
def qR.step{S S'}{h h':List Ob}{p s}(e:∀j,j<h.length->S j->S' j/\h'[j]? = h[j]?):qR S h p s->qR S' h' p s:=λ⟨a,b,c,d,f,g,T⟩=>⟨a,b,c,d,f,g,T.step e⟩
structure QbA (S:Nat->Prop) (h:List Ob) (p:Nat) (dr:D) (le:Nat) (dm:D) (c:Nat) (es:List X0) (ms:List Nat) (R:List J6):Prop where
 o:h[p]?=some (NN dr le dm)
 eo:h[le]?=some (wN c es)
 rs:Ye S h 9 J6.cells dr R
 mo:Ye S h 1 (λi:Nat=>[Qa i]) dm ms
 sp:S p
 se:S le
 I:qk R R.length es ms
 ok:zK R=0
def IM(S:Nat->Prop)(h:List Ob)(p:Nat)(R:List J6):Prop:=∃e b f c d a,QbA S h p e b f c d a R
def IM.step{S S'}{h h':List Ob}{p R}(e:∀j,j<h.length->S j->S' j/\h'[j]? = h[j]?):IM S h p R->IM S' h' p R:=λ⟨i,f,m,c,g,d,T⟩=>
 have k:∀l o,S l->h[l]?=some o->S' l/\h'[l]?=some o:=λl o b a=>⟨(e l (Qb a) b).1,(e l (Qb a) b).2.trans a⟩
 ⟨i,f,m,c,g,d,(k _ _ T.sp T.o).2,(k _ _ T.se T.eo).2,T.rs.step e,T.mo.step e,(k _ _ T.sp T.o).1,(k _ _ T.se T.eo).1,T.I,T.ok⟩
structure WZ (own:Nat->Tag) (tw:Nat->TT) (h:List Ob) (p ps pl pr pt:Nat) (S:Zy):Prop where
 o:h[p]?=some (jS ps pl pr pt S.Qc S.ops)
 tp:tw p=.sys
 co:jR own h ps S.M
 ln:∃a b c,h[pl]?=some (jT a b c S.M.lk.t S.Ja)
 tl:tw pl=.ln
 tb:IM (λl=>tw l=.IK) h pr S.R
 st:qR (λl=>tw l=.st) h pt S.st
 ap:∀l,tw l≠.no->own l=.no
def Yw(a:Nat->Tag)(b:Nat->TT)(h:List Ob)(p:Nat)(S:Zy):Prop:=∃d f e c,WZ a b h p d f e c S
def mU(a:Nat->Tag)(c:Nat->TT)(h:List Ob)(b:Nat->Tag)(e:Nat->TT)(d:List Ob):Prop:=
 ∀l,l<h.length->(Live (a l)->b l=a l/\d[l]? = h[l]?)/\(c l≠.no->c l≠.my->e l=c l/\d[l]? = h[l]?)
def WZ.step{j own' m i h h' p q u r n S}(T:WZ j m h p q u r n S)(e:mU j m h own' i h')(x:∀l,i l≠.no->own' l=.no):WZ own' i h' p q u r n S:=by
 have k:∀l o t,m l=t->t≠.no/\t≠.my->h[l]?=some o->i l=t/\h'[l]?=some o:=λl o t d g v=>by obtain⟨a,b⟩:=(e l (Qb v)).2 (by rw[d];exact g.1) (by rw[d];exact g.2);exact⟨by rw[a,d],b.trans v⟩
 have s:∀t,t≠.no/\t≠.my->∀l,l<h.length->m l=t->i l=t/\h'[l]? = h[l]? := λt g l f d=>by obtain⟨a,b⟩:=(e l f).2 (by rw[d];exact g.1) (by rw[d];exact g.2);exact⟨by rw[a,d],b⟩
 obtain⟨a,b,c,f⟩:=T.ln;exact⟨(k _ _ _ T.tp σ T.o).2,(k _ _ _ T.tp σ T.o).1,T.co.step λl f w=>(e l f).1 w,⟨a,b,c,(k _ _ _ T.tl σ f).2⟩,(k _ _ _ T.tl σ f).1,T.tb.step (s _ σ),T.st.step (s _ σ),x⟩
structure JK (n:Nat) (own:Nat->Tag) (tw:Nat->TT) (h:List Ob) (own':Nat->Tag) (JF:Nat->TT) (h':List Ob):Prop where
 s1:∀l,l<h.length->own' l=own l
 s2:∀l,l<h.length->JF l=tw l
 keep:∀l,l<n->own l=Tag.no->tw l=TT.no->h'[l]? = h[l]?
 my:∀l,l<h.length->tw l=TT.my->h'[l]? = h[l]?
 len:h.length<=h'.length
def JK.refl(n a)(b:Nat->TT)(h):JK n a b h a b h:=⟨λ_ _=>rfl,λ_ _=>rfl,λ_ _ _ _=>rfl,λ_ _ _=>rfl,Qv _⟩
def JK.trans{n f d o i p g}{h h' j:List Ob}(k:n<=h.length)(a:JK n f i h d p h')(b:JK n d p h' o g j):JK n f i h o g j:=
 ⟨λl c=>(b.s1 l (wB c a.len)).trans (a.s1 l c),λl c=>(b.s2 l (wB c a.len)).trans (a.s2 l c),
  λl c e m=>(b.keep l c ((a.s1 l (wB c k)).trans e) ((a.s2 l (wB c k)).trans m)).trans (a.keep l c e m),λl c e=>(b.my l (wB c a.len) ((a.s2 l c).trans e)).trans (a.my l c e),J5 a.len b.len⟩
def JK.core{n b a d}{h f:List Ob}(g:∀l,d l≠.no->b l=.no)(i:n<=h.length)(D:ZC b h a f):JK n b d h a (Ju d h .no) f:=
 ⟨D.same,λl c=>VW c,λl c e _=>D.keep l ω e,λl c e=>D.keep l c (g l (by rw[e];simp)),D.len⟩
def WZ.core{j d g h i p m n v u}{S:Zy}(T:WZ j g h p m n v u S)(D:ZC j h d i){M:Qn}(C:jR d i m M)(w:M.lk=S.M.lk):WZ d (Ju g h .no) i p m n v u { S with M:=M }:=by
 have k:∀l o t,g l=t->t≠.no->h[l]?=some o->Ju g h .no l=t/\i[l]?=some o:=λl o t f r q=>⟨by rw[VW (Qb q),f],(D.keep l (Qb q) (T.ap l (by rw[f];exact r))).trans q⟩
 have s:∀t,t≠.no->∀l,l<h.length->g l=t->Ju g h .no l=t/\i[l]? = h[l]? := λt r l e f=>⟨by rw[VW e,f],D.keep l e (T.ap l (by rw[f];exact r))⟩
 obtain⟨a,b,c,e⟩:=T.ln;refine⟨(k _ _ _ T.tp σ T.o).2,(k _ _ _ T.tp σ T.o).1,C,⟨a,b,c,?_⟩,(k _ _ _ T.tl σ e).1,T.tb.step (s _ σ),T.st.step (s _ σ),λl e=>?_⟩;show i[n]?=some (jT a b c M.lk.t S.Ja);rw[w];exact(k _ _ _ T.tl σ e).2;by_cases f:l<h.length;rw[VW f]at e;rw[D.same l f];exact T.ap l e;rw[GA ω]at e;exact absurd rfl e
def WZ.app{a b h p d f e c S}(T:WZ a b h p d f e c S)(g):WZ (Q5 a h .no) (Ju b h .no) (h++g) p d f e c S:=
 T.core (ZC.app a h g .no) (T.co.Rf g) rfl
def JK.app{n}(b)(c:Nat->TT)(h g:List Ob)(t:TT)(d:n<=h.length):JK n b c h (Q5 b h .no) (Ju c h t) (h++g):=
 ⟨λl a=>KB a,λl a=>VW a,λl a _ _=>QG ω,λl a _=>QG a,σ⟩
def WZ.GC{b c h p e i f d S}(T:WZ b c h p e i f d S)(g):WZ (Q5 b h .no) (Ju c h .my) (h++g) p e i f d S:=
 T.step (λl a=>⟨λ_=>⟨KB a,QG a⟩,λ_ _=>⟨VW a,QG a⟩⟩) λl a=>by by_cases j:l<h.length;rw[VW j]at a;rw[KB j];exact T.ap l a;exact k9 ω
def WZ.loc{a b}{h:List Ob}{p g k i f S}(T:WZ a b h p g k i f S){l}(q:a l=.no)(n:b l=.no\/b l=.my)(o):WZ a b (h.set l o) p g k i f S:=
 T.step (λj _=>⟨λc=>⟨rfl,Qo (λe=>c.1 (by rw[<-e,q]))⟩,λc m=>⟨rfl,Qo (λe=>n.elim (λd=>c (by rw[<-e,d])) (λd=>m (by rw[<-e,d])))⟩⟩) T.ap
def WZ.part{own b h d p f j i g S}(T:WZ own b h p f j i g S){t}(m:t≠.no)(s:Step (λl=>b l=t) h d):
  jR (Q5 own h .no) d f S.M/\(∀u,u≠.no->u≠t->∀l,l<h.length->b l=u->Ju b h t l=u/\d[l]? = h[l]?)/\(∀l,Ju b h t l≠.no->Q5 own h .no l=.no):=by
 refine⟨T.co.step λl a k=>⟨KB a,s.keep l a λe=>k.1 (T.ap l (by rw[e];exact m))⟩,λu q n l a c=>⟨by rw[VW a,c],s.keep l a λe=>n (by rw[<-c,e])⟩,λl a=>?_⟩;by_cases c:l<h.length;rw[VW c]at a;rw[KB c];exact T.ap l a;exact k9 ω
def JK.part{n own b}{h f:List Ob}{t}(d:t≠.no/\t≠.my)(g:n<=h.length)(s:Step (λl=>b l=t) h f):JK n own b h (Q5 own h .no) (Ju b h t) f:=
 ⟨λl a=>KB a,λl a=>VW a,λl a _ c=>s.keep l ω λe=>d.1 (by rw[<-e,c]),λl a c=>s.keep l a λe=>d.2 (by rw[<-e,c]),s.len⟩
def QDL{b h t}(l):more (λl=>b l=t) h l->Ju b h t l=t:=λa=>by unfold Ju;split;rfl;rcases a with a|a;exact a;omega
section
variable {own:Nat->Tag}{tw:Nat->TT}{h h':List Ob}{p ps pl pr pt:Nat}{S:Zy}(T:WZ own tw h p ps pl pr pt S)
include T
theorem WZ.link{u a b c}(s:Step (λl=>tw l=.ln) h h')(f:h'[pl]?=some (jT a b c S.M.lk.t u)):WZ (Q5 own h .no) (Ju tw h .ln) h' p ps pl pr pt { S with Ja:=u }:=by
 obtain⟨C,r,ap⟩:=T.part σ s;have k:∀l o t,tw l=t->t≠.no->t≠.ln->h[l]?=some o->Ju tw h .ln l=t/\h'[l]?=some o:=λl o t j i g d=>by obtain⟨a,b⟩:=r t i g l (Qb d) j;exact⟨a,b.trans d⟩
 obtain⟨_,_,_,e⟩:=T.ln;exact⟨(k _ _ _ T.tp σ σ T.o).2,(k _ _ _ T.tp σ σ T.o).1,C,⟨a,b,c,f⟩,by rw[VW (Qb e)];exact T.tl,T.tb.step (r _ σ σ),T.st.step (r _ σ σ),ap⟩
theorem WZ.stat{e}(s:Step (λl=>tw l=.st) h h')(g:qR (more (λl=>tw l=.st) h) h' pt e):WZ (Q5 own h .no) (Ju tw h .st) h' p ps pl pr pt { S with st:=e }:=by
 obtain⟨C,r,ap⟩:=T.part σ s;have k:∀l o t,tw l=t->t≠.no->t≠.st->h[l]?=some o->Ju tw h .st l=t/\h'[l]?=some o:=λl o t m j i f=>by obtain⟨a,b⟩:=r t j i l (Qb f) m;exact⟨a,b.trans f⟩
 obtain⟨a,b,c,d⟩:=T.ln;exact⟨(k _ _ _ T.tp σ σ T.o).2,(k _ _ _ T.tp σ σ T.o).1,C,⟨a,b,c,(k _ _ _ T.tl σ σ d).2⟩,(k _ _ _ T.tl σ σ d).1,T.tb.step (r _ σ σ),g.step λl _ d=>⟨QDL l d,rfl⟩,ap⟩
theorem WZ.clock(c o):WZ own tw (h.set p (jS ps pl pr pt c o)) p ps pl pr pt { S with Qc:=c,ops:=o }:=by
 have k:∀l x t,tw l=t->t≠.sys->h[l]?=some x->(h.set p (jS ps pl pr pt c o))[l]?=some x:=λl x t f g m=>by rw[Qo (λe=>g (by rw[<-f,<-e,T.tp]))];exact m
 have s:∀t,t≠.sys->∀l,l<h.length->tw l=t->tw l=t/\(h.set p (jS ps pl pr pt c o))[l]? = h[l]? := λt g l i f=>⟨f,Qo (λe=>g (by rw[<-f,<-e,T.tp]))⟩
 obtain⟨a,b,d,i⟩:=T.ln;exact⟨QI (Qb T.o),T.tp,T.co.step λl _ j=>⟨rfl,Qo (λe=>j.1 (T.ap l (by rw[<-e,T.tp];simp)))⟩,⟨a,b,d,k _ _ _ T.tl σ i⟩,T.tl,T.tb.step (s _ σ),T.st.step (s _ σ),T.ap⟩
theorem WZ.rules{g i R}(r:IM (λl=>h.length<=l) (h++g) i R):
  WZ (Q5 own h .no) (Ju tw h .IK) ((h++g).set p (jS ps pl i pt S.Qc S.ops)) p ps pl i pt { S with R:=R }:=by
 have q:=Qb T.o;have k:∀l x t,tw l=t->t≠.no->t≠.sys->h[l]?=some x->Ju tw h .IK l=t/\((h++g).set p (jS ps pl i pt S.Qc S.ops))[l]?=some x:=λl x t f u m j=>by refine⟨by rw[VW (Qb j),f],?_⟩;rw[Qo (λe=>m (by rw[<-f,<-e,T.tp])),QG (Qb j)];exact j
 have s:∀t,t≠.no->t≠.sys->∀l,l<h.length->tw l=t->Ju tw h .IK l=t/\((h++g).set p (jS ps pl i pt S.Qc S.ops))[l]? = h[l]? := λt u m l c f=>⟨by rw[VW c,f],by rw[Qo (λe=>m (by rw[<-f,<-e,T.tp])),QG c]⟩
 obtain⟨a,b,d,c⟩:=T.ln;refine⟨QI ξ,by rw[VW q];exact T.tp,T.co.step λl c n=>⟨KB c,by rw[Qo (λe=>n.1 (T.ap l (by rw[<-e,T.tp];simp))),QG c]⟩,⟨a,b,d,(k _ _ _ T.tl σ σ c).2⟩,(k _ _ _ T.tl σ σ c).1,
  r.step λl c f=>⟨GA f,Qo (λe=>ω)⟩,T.st.step (s _ σ σ),λl c=>?_⟩
 by_cases f:l<h.length;rw[VW f]at c;rw[KB f];exact T.ap l c;exact k9 ω
end
@[go_sem] def aS(n:Int):D:=.raw (.int .u64 n)
def mV(n m):QM prog 217 [Qa n,Qa m] (QR (QV (decide (1<=n/\n<=m)))):=by
 refine Q1 0 func217 ntmps217 results217 λa w b=>?_;simp only[go_sem];first|refine zg (λh=>?_) (λh=>?_)|refine zj (λh=>?_) (λh=>?_)|refine zk (λh=>?_) (λh=>?_)|refine VX (λh=>?_) (λh=>?_)|refine zl (λh=>?_) (λh=>?_)|refine zn (λh=>?_) (λh=>?_)|refine zo (λh=>?_) (λh=>?_)|refine ze (λh=>?_) (λh=>?_)
 all_goals (simp only[go_sem];congr 2;rw[wz];simp only[W3,qq,false_iff];omega)
def wv(p:Pk)(m:Int):Int:=if ¬(1<=m/\m<=16384) then 1 else if ¬ (1<=p.len/\p.len<=m) then 26 else 0
def QDM(p:Pk)(m):QM prog 157 [.agg p.cells,Qa m] (QR (Qa (wv p m))):=by refine Q1 0 func157 ntmps157 results157 λc w a=>?_;simp only[go_sem];apply QZ a gy (mV m 16384);apply Qg a;by_cases h:1<=m/\m<=16384;simp only[go_sem,QY h];apply QZ a gy (mV p.len m);apply Qg a;by_cases b:1<=p.len/\p.len<=m;simp only[go_sem,QY b];simp[wv,h,b];simp only[go_sem,QN b];simp[wv,h,b];simp only[go_sem,QN h];simp[wv,h]
def xy(p:Pk)(t:Int):Int:=if (1<=t/\t<=65536)/\(1<=p.len/\p.len<=16384) then IntKind.u64.wrap (p.len*t) else 0
def RL(p:Pk)(t:Int):Int:=if (1<=t/\t<=65536)/\(1<=p.len/\p.len<=16384) then 0 else 1
def QDN(p:Pk)(t):QM prog 158 [.agg p.cells,Qa t] (QR (.tup [aS (xy p t),Qa (RL p t)])):=by refine Q1 0 func158 ntmps158 results158 λc w a=>?_;simp only[go_sem];apply QZ a gy (mV t 65536);apply Qg a;by_cases h:1<=t/\t<=65536;simp only[go_sem,QY h];apply QZ a gy (mV p.len 16384);apply Qg a;by_cases b:1<=p.len/\p.len<=16384;simp only[go_sem,QY b];have e:IntKind.u64.wrap p.len=p.len:=gG ω ω;have d:IntKind.u64.wrap t=t:=gG ω ω;simp[e,d,xy,RL,h,b];simp only[go_sem,QN b];simp[xy,RL,h,b];simp only[go_sem,QN h];simp[xy,RL,h]
def QDO(h:List Ob){t}(g:1<=t)(f:t<=65536):QO prog 40 h [Qa t] (λd b=>d=.tup [.ptr h.length 0 0 0,Qa 0]/\b=h++[jT 0 0 0 t 0]):=by have d1:decide (t<1)=false:=QN ω;have d2:decide (65536<t)=false:=QN ω;refine Q9 func40 ntmps40 results40 λa w c e=>?_;simp only[go_sem,d1,d2]
section
variable {h:List Ob}{lp a b c:Nat}{t:Int}{u:Nat}(ho:(h.map Ob.ro)[lp]?=some (jT a b c t u).ro)
include ho
theorem QbB(e):Zl prog 45 h [.ptr lp 0 0 0,u64 e] (λd=>d=QV (decide (u<=e))):=by refine ZN func45 ntmps45 results45 λf w i F g k j=>?_;rw[<-g]at ho;have l:=Qb ho;simp only[go_sem,ho];all_goals exact Xp
theorem QDP:Zl prog 122 h [.ptr lp 0 0 0] (λd=>d=u64 u):=by refine ZN func122 ntmps122 results122 λe w g F f j i=>?_;rw[<-f]at ho;have k:=Qb ho;simp only[go_sem,ho];all_goals exact Xp
end
def QDQ(h:List Ob){f a b c t u}(g:h[f]?=some (jT a b c t u))(n k):QO prog 159 h [.ptr f 0 0 0,Qa n,u64 k] (λd s=>∃C B v,s=h.set f (jT C B v t u)):=by have e:∀(x y:Nat),∃z:Nat,IntKind.u64.wrap ((x:Int)+y)=z:=λx y=>⟨(IntKind.u64.wrap ((x:Int)+y)).toNat,κ⟩;have l:∀(x:Nat) (y:Int),∃z:Nat,IntKind.u64.wrap ((x:Int)+y)=z:=λx y=>⟨(IntKind.u64.wrap ((x:Int)+y)).toNat,κ⟩;obtain⟨q,j⟩:=l a 1;obtain⟨p,E⟩:=l b (IntKind.u64.wrap n);obtain⟨o,i⟩:=e c k;have r:=Qb g;refine Q9 func159 ntmps159 results159 λm w F H=>?_;have I:=Qb g;simp only[go_sem,Qj,g,j,E,i,QI r];exact⟨q,p,o,rfl⟩
def QDT(h:List Ob){i a b c t u}(j:h[i]?=some (jT a b c t u))(z:1<=t)(y:t<=65536){e}(V:e<=4611686018427387904)(K:u<=e)(x:Pk)(r:1<=x.len/\x.len<=16384):
  QO prog 119 h [.ptr i 0 0 0,u64 e,.agg x.cells] (λd O=>d=.tup [u64 (e+x.len.toNat*t.toNat),Qa 0]/\∃q p n g,O=h.set i (jT q p n t (e+x.len.toNat*t.toNat))++g):=by
 have l:=Qb j;have R:decide ((4611686018427387904:Int)<(e:Int))=false:=QN ω;have Q:wv x 16384=0:=by unfold wv;rw[Qd σ,Qd ξ]
 have J:x.len.toNat*t.toNat<=1073741824:=Xk (show x.len.toNat<=16384 from ω) (show t.toNat<=65536 from ω);have B:xy x t=((x.len.toNat*t.toNat:Nat):Int):=by
  have I:x.len*t=((x.len.toNat*t.toNat:Nat):Int):=by rw[zO,ET ω,ET ω]
  unfold xy;rw[Qe ⟨⟨z,y⟩,r⟩,I];exact gG ω ω
 obtain⟨k,L⟩:=Zc (x.len.toNat*t.toNat);rw[<-L]at J B ⊢;have P:IntKind.u64.wrap ((e:Int)+(k:Int))=((e+k:Nat):Int):=by rw[gG ω ω];omega
 have s:=QDN x t;have S:RL x t=0:=by unfold RL;rw[Qe ⟨⟨z,y⟩,r⟩]
 rw[B,S]at s;have v:=QDM x 16384;rw[Q]at v;refine Q9 func119 ntmps119 results119 λF w U f=>?_;have E:=Qb j;simp only[go_sem,Qj,R];apply QZ f QuE v;apply Kh f;apply ZH f fT (QbB (u:=u) (Jf (by rw[QG l];exact j)) e);apply Qh f;simp only[go_sem,QY K];apply Qy f [0,1,2,3,4,1005,6,7,8,9,10];simp only[go_sem,Qj,j,E];apply ZP f QuF s;apply Jb f;simp only[go_sem,Qj,j,E,P];apply VI [6] f [0,1,2,3,4,5,1006] [];simp only[go_sem,Qj];obtain⟨H,m⟩:=Zc (h.set i (jT a b c t (e+k))++[(⟨.one,0,6,1,λ_=>x.cells⟩:Ob)]);have C:H[i]?=some (jT a b c t (e+k)):=by rw[m,QG (zC l),QI l]
 have T:=Qb C;have M:∀o:Ob,H.set i o=h.set i o++[(⟨.one,0,6,1,λ_=>x.cells⟩:Ob)]:=λo=>by rw[m,DO (zC l),J4]
 simp only[go_sem]at m;rw[<-m];refine vO f QuG (QDQ H C x.len k) λd W N=>?_;obtain⟨q,p,n,rfl⟩:=N;apply Jb f;simp only[go_sem,QI T];exact⟨q,p,n,_,M _⟩
def QDU(a):QM prog 254 [u64 a] (QR (QV false)):=by have e:((a:Int) != (a:Int))=false:=σ;refine Q1 0 func254 ntmps254 results254 λb w c=>?_;simp only[go_sem];simp only[go_sem,e]
def Ql1(a b):QM prog 218 [u64 a,u64 b] (QR (QV (decide (a<b)))):=by refine Q1 0 func218 ntmps218 results218 λd w c=>?_;simp only[go_sem];apply QZ c QgD (QDU a);apply Qh c;simp only[go_sem,Go.undef]
def QDV(h:List Ob)(a b c o g)(j:(h.map Ob.ro)[o]?=some ⟨.AH,0,1,2,g⟩)(q:g 0=[u64 b])(p:g 1=[u64 c]):
  Zl prog 161 h [u64 a,.ref o 0 0 2] (λd=>d=u64 (max (max a b) c)):=by
 simp only[go_sem]at q p;refine ZN func161 ntmps161 results161 λt w y F u z f=>?_;rw[<-u]at j;have B:=Qb j;simp only[go_sem];have x:IntKind.i64.wrap 1=1:=rfl;have v:IntKind.i64.wrap 2=2:=rfl;have i:∀m k:Nat,∃d:Bool,d=decide (m<k)/\max m k=bif d then k else m:=λm k=>⟨_,rfl,by by_cases e:m<k;rw[QY e];show _=k;omega;rw[QN e];show _=m;omega⟩
 obtain⟨d1,s,n⟩:=i a b;have L1:=Ql1 a b;rw[<-s]at L1;obtain⟨d2,r,l⟩:=i (max a b) c;have L2:=Ql1 (max a b) c;rw[<-r]at L2;rw[l];rw[n]at L2 ⊢;clear s r n l i;cases d1<;>cases d2;all_goals
  simp only[wD,ju]at L2 ⊢;refine x6 2 ?_;apply Qh f;simp only[go_sem,j,q];apply QZ f kB L1;apply Qg f;apply Qh f;simp only[go_sem,j,p];apply QZ f kB L2;apply Qg f;apply Qg f;apply Qg f;all_goals exact Xp
def QDW(h:List Ob)(a g b)(c:(h.map Ob.ro)[g]?=some ⟨.AH,0,1,1,b⟩)(i:b 0=[u64 a]):
  Zl prog 160 h [.ref g 0 0 1] (λd=>d=u64 (min 9223372036854775808 a)):=by
 simp only[go_sem]at i;have e:min (9223372036854775808:Int) (a:Int)=((min 9223372036854775808 a:Nat):Int):=ω;have k:IntKind.i64.wrap 1=1:=rfl;refine ZN func160 ntmps160 results160 λj w m F l n f=>?_;rw[<-l]at c;have o:=Qb c;simp only[go_sem];refine x6 1 ?_;apply Qh f;simp only[go_sem,c,i,e,k];apply Qg f;apply Qg f;all_goals exact Xp
def QDX(a b c):QM prog 121 [u64 a,u64 b,u64 c] (QR (u64 (Yu a b c))):=by
 have e:Yu a b c=min 9223372036854775808 (max (max a b) c):=by unfold Yu;omega
 rw[e];refine Q1 0 func121 ntmps121 results121 λf w d=>?_;simp only[go_sem];apply ZH d QuI (QDV _ a b c 0 _ (Jf (o:=⟨.arr,0,1,2,_⟩) rfl) rfl rfl);apply Qg d;obtain⟨m,g⟩:=Zc (max (max a b) c);rw[<-g];apply ZH d QuH (QDW _ m 1 _ (Jf (o:=⟨.arr,0,1,1,_⟩) rfl) rfl);exact VT d
def QDY(h:List Ob):QO prog 42 h [] (λd b=>d=.ptr (h.length+2) 0 0 0/\b=h++[QT .i64 0 [],QT .i64 0 [],stO h.length (h.length+1)]):=by refine Q9 func42 ntmps42 results42 λa w c e=>?_;simp only[go_sem,Qj]
def GB.put{S h w p q x E f J K s}(T:GB S h p q x E f J K s){b d l}(i)
  (P:w[q]?=some (Kb .i64 E f b d)) (z:∀j o,h[j]?=some o->j≠q->j≠i->w[j]?=some o) (O:NO (more S h) w d l) (H:∀j g off n,d=.ref j g off n->j=i)
  (y:∀k j g off n,k≠b->Je f k=some (.ref j g off n)->j≠i) (N:p≠i) (M:x≠i) :
  qR (more S h) w p { s with Jq:=λk=>if k=b then l else s.Jq k }:=by
 obtain⟨V,F,R,C⟩:=Qdi .i64 E f b d;have Y:p≠q:=λe=>by have:=T.o;rw[e,T.co]at this;cases this
 refine⟨q,x,V,F,J,K,z _ _ T.o Y N,by rw[P,R],z _ _ T.ro (Zb T.ne) M,T.ne,.inl T.sp,.inl T.sc,.inl T.sr,λk=>?_,λv u j g off n U Z L a c=>?_,T.rw_⟩;rw[C k];by_cases m:k=b;rw[Qe m];dsimp only;rw[Qe m];exact O;rw[Qd m];dsimp only;rw[Qd m];rcases T.ca k with ⟨a,c⟩|⟨j,g,off,row,a,c,B,Q⟩;exact .inl ⟨a,c⟩;have W:Je f k=some (.ref j g off (s.Jq k).length):=by
  cases I:Je f k with
  | none=>rw[I]at a;cases a
  | some d'=>rw[I]at a;exact congrArg some a
 refine .inr ⟨j,g,off,row,a,.inl c,z j _ B (λe=>?_) (y k _ _ _ _ m W),Q⟩;rw[e,T.co]at B;cases B;rw[C v]at a;rw[C u]at c;by_cases t:v=b<;>by_cases r:u=b;rw[t,r];rw[Qe t]at a;rw[Qd r]at c;exact absurd (H _ _ _ _ (Oq a)) (y u _ _ _ _ r c);rw[Qd t]at a;rw[Qe r]at c;exact absurd (H _ _ _ _ (Oq c)) (y v _ _ _ _ t a);rw[Qd t]at a;rw[Qd r]at c;exact T.sep v u j g off n U Z L a c
def QDZ{S h p}{s:EJ}(T:qR S h p s)(b:Int)(a)(E:(s.Jq b).length<1000000):
  QO prog 79 h [.ptr p 0 0 0,Qa b,u64 a] (λd Z=>d=Qa 0/\Step S h Z/\qR (more S h) Z p (wu s b a)):=by
 obtain⟨F,rm,N,z,c2,Jl,T⟩:=T;have t:=T.o;have v:=T.co;have H:=Qb t;have u:=Qb v;have L:=T.ca b;have Ti:p≠F:=λe=>by rw[e,v]at t;cases t
 have Zd:wu s b a={ s with Jq:=λk=>if k=b then s.Jq b++[a] else s.Jq k }:=by unfold wu;congr 1;funext k;by_cases m:k=b;rw[Qe m,Qe m,m];rw[Qd m,Qd m]
 rw[Zd];have SK:∀k j g f n,Je z k=some (.ref j g f n)->j<h.length:=λk j g f n m=>by rcases T.ca k with ⟨x,_⟩|⟨j',_,_,_,x,_,q,_⟩;rw[m]at x;cases x;rw[m]at x;cases x;exact Qb q
 have K:(Je z b=none\/Je z b=some .nil)->s.Jq b=[]->Step S h (h.set F (Kb .i64 N z b (.ref (h.length+1) 0 0 1))++[⟨.arr,0,1,1,λ_=>[u64 a]⟩,⟨.arr,0,1,1,λ_=>[u64 a]⟩]) /\
   qR (more S h) (h.set F (Kb .i64 N z b (.ref (h.length+1) 0 0 1))++[⟨.arr,0,1,1,λ_=>[u64 a]⟩,⟨.arr,0,1,1,λ_=>[u64 a]⟩]) p { s with Jq:=λk=>if k=b then s.Jq b++[a] else s.Jq k }:=λm Q=>by
  refine⟨⟨λl R M=>?_,σ⟩,T.put (d:=.ref (h.length+1) 0 0 1) (h.length+1) ?_ (λj o I x y=>?_) (.inr ⟨h.length+1,0,0,λ_=>[u64 a],by simp[Q],.inr ω,?_,λi J=>?_⟩) (λj g f n e=>by cases e;rfl) (λk j g f n _ ZJ=>by have:=SK k _ _ _ _ ZJ;omega) ω (by have:=Qb T.ro;omega)⟩;rw[QG (zC R),Qo (λe=>M (by rw[<-e];exact T.sc))];rw[QG (zC u),QI u];rw[QG (by simpa using Qb I),Qo (Zb x),I];rw[VS (k:=1) σ,Q];rfl;rw[Q]at J ⊢;simp at J;subst J;rfl
 cases m:Je z b with
 | none=>
  rw[m]at L;have c:=K (.inl m) L.nil;refine Q9 func79 ntmps79 results79 λB w U E=>?_;have H:=Qb t;have u:=Qb v;simp only[go_sem];apply VI [] E [0,1,2,4,5,6,7,8,9,10,11] [3,12,13,14];simp only[go_sem,Qj,t,H,v,u,m];simp only[go_sem]at c ⊢
  repeat' apply And.intro
  all_goals first|exact c.1|exact c.2
 | some d=>
  rw[m]at L;rcases L with ⟨y,q⟩|⟨r,g,f,C,y,Y,q,h4⟩
  .simp only[Va]at y;subst y;have c:=K (.inr m) q;refine Q9 func79 ntmps79 results79 λB w U E=>?_;have H:=Qb t;have u:=Qb v;simp only[go_sem];apply VI [] E [0,1,2,4,5,6,7,8,9,10,11] [3,12,13,14];simp only[go_sem,Qj,t,H,v,u,m];simp only[go_sem]at c ⊢
   repeat' apply And.intro
   all_goals first|exact c.1|exact c.2
  .simp only[Va]at y;subst y;have W:r≠p:=λe=>by rw[e,t]at q;cases q
   have V:r≠F:=λe=>by rw[e,v]at q;cases q
   have n3:r≠rm:=λe=>by rw[e,T.ro]at q;cases q
   have WG:(s.Jq b).length<=4294967295:=ω;have h9:(s.Jq b).length+1<=4294967295:=ω;have P:=Qb q;have c:Step S h ((h.set r ⟨.arr,g+1,1,(s.Jq b).length+1,J8 (s.Jq b).length f C λ_=>[u64 a]⟩).set F (Kb .i64 N z b (.ref r (g+1) 0 ((s.Jq b).length+1)))++[⟨.arr,0,1,1,λ_=>[u64 a]⟩]) /\
     qR (more S h) ((h.set r ⟨.arr,g+1,1,(s.Jq b).length+1,J8 (s.Jq b).length f C λ_=>[u64 a]⟩).set F (Kb .i64 N z b (.ref r (g+1) 0 ((s.Jq b).length+1)))++[⟨.arr,0,1,1,λ_=>[u64 a]⟩]) p { s with Jq:=λk=>if k=b then s.Jq b++[a] else s.Jq k }:=by
    refine⟨⟨λl R M=>?_,σ⟩,T.put (d:=.ref r (g+1) 0 ((s.Jq b).length+1)) r ?_ (λj o I x y=>?_) (.inr ⟨r,g+1,0,J8 (s.Jq b).length f C λ_=>[u64 a],σ,.inl Y,?_,λi J=>?_⟩) (λj g f n e=>by cases e;rfl) (λk j g' AL n' QE ZO e=>?_) (Zb W) (Zb n3)⟩;rw[QG (zC R),Qo (λe=>M (by rw[<-e];exact T.sc)),Qo (λe=>M (by rw[<-e];exact Y))];rw[QG (zC u),QI (zC u)];rw[QG (by simpa using Qb I),Qo (Zb x),Qo (Zb y),I];rw[QG (zC P),Qo (Zb V),QI P];simp;simp at J;rw[JG];by_cases O:i<(s.Jq b).length;rw[BS O,h4 i O];simp[O,JX O];have:i=(s.Jq b).length:=ω;subst this;rw[yC (Qv _)];simp;subst e;exact QE (T.sep _ _ _ _ _ _ _ _ _ ZO m)
   refine Q9 func79 ntmps79 results79 λB w U E=>?_;have H:=Qb t;have u:=Qb v;have P:=Qb q;simp only[go_sem];apply VI [] E [0,1,2,4,5,6,7,8,9,10,11] [3,12,13,14];simp only[go_sem,Qj,t,H,v,u,m,Qo,q,P,W,V,WG];simp only[go_sem]at c ⊢
   repeat' apply And.intro
   all_goals first|exact c.1|exact c.2
def GB.row{S h h' p t a u v i l s}(T:GB S h p t a u v i l s){cls r}
  (w:h'[a]?=some (Kb .i64 i l cls (.agg r.cells))) (c:∀j o,h[j]?=some o->j≠a->h'[j]?=some o) :
  ∃q E,GB S h' p t a u v q E { s with rows:=λk=>if k=cls then r else s.rows k }:=by
 obtain⟨C,n,z,y⟩:=Qdi .i64 i l cls (.agg r.cells);have F:p≠a:=λe=>by have:=T.o;rw[e,T.ro]at this;cases this
 refine⟨C,n,c _ _ T.o F,c _ _ T.co T.ne,by rw[w,z],T.ne,T.sp,T.sc,T.sr,λk=>?_,T.sep,λk=>?_⟩;rcases T.ca k with f|⟨j,g,m,row,f,B,d,x⟩;exact .inl f;refine .inr ⟨j,g,m,row,f,B,c j _ d (λe=>?_),x⟩;rw[e,T.ro]at d;cases d;rw[y k];dsimp only;by_cases b:k=cls;rw[Qe b,Qe b];rfl;rw[Qd b,Qd b];exact T.rw_ k
def kZ.QD0{a b:kZ}(h:a.cells=b.cells):a=b:=by obtain⟨u,t,s,q,o⟩:=a;obtain⟨n,m,k,j,i⟩:=b;simp only[kZ.cells,u64,Lc,D.raw.injEq,Value.int.injEq,yz,and_true]at h;obtain⟨g,f,e,d,c⟩:=h;congr 1<;>omega
def RM(a b:Nat):IntKind.u64.wrap ((a:Int)+(b:Int))=(((a+b)%18446744073709551616:Nat):Int):=by rw[IntKind.wrap_u64];omega
def QD1{S h p s}(T:qR S h p s)(b){done}(hd:done<18446744073709551616){bytes}(KU:1<=bytes)(ZX:bytes<=16384)(c):
  QO prog 120 h [.ptr p 0 0 0,Qa b,u64 done,Qa bytes,QV c] (λd h'=>Step S h h'/\qR (more S h) h' p (qQ s b done bytes c)):=by
 obtain⟨U,O,c1,V,c2,M,T⟩:=T;have q:=T.o;have y:=T.co;have K:=T.ro;have QE:=T.ne;have F:=Qb q;have J:=Qb y;have W:=Qb K;have hp:=T.ca b;have Ti:p≠U:=λe=>by rw[e,y]at q;cases q
 have EK:p≠O:=λe=>by rw[e,K]at q;cases q
 have a0:∀g:List Ob,qQ s b done bytes c=s->Step S h (h++g)/\qR (more S h) (h++g) p (qQ s b done bytes c):=λg e=>by rw[e];exact⟨Step.app S h g,qR.step (λj R L=>⟨.inl L,QG R⟩) ⟨U,O,c1,V,c2,M,T⟩⟩
 have mW:qQ s b done bytes c=s->Step S h h/\qR (more S h) h p (qQ s b done bytes c):=λe=>by have:=a0 [] e;rwa [JN]at this
 obtain⟨r,BO⟩:=Zc (s.rows b);have Z3:=T.rw_ b;rw[<-BO]at Z3;cases C:Je V b with
 | none=>rw[C]at hp;have h0:=hp.nil;have t:=mW (by unfold qQ;rw[h0]);refine Q9 func120 ntmps120 results120 λz w pl u=>?_;have F:=Qb q;have J:=Qb y;simp only[go_sem,q,y,C];exact t
 | some d=>
  rw[C]at hp;rcases hp with ⟨Z,f⟩|⟨P,g,m,a2,Z,hS,f,h4⟩;simp only[Va]at Z;subst Z;have t:=mW (by unfold qQ;rw[f]);refine Q9 func120 ntmps120 results120 λz w pl u=>?_;have F:=Qb q;have J:=Qb y;simp only[go_sem,q,y,C];exact t
  .simp only[Va]at Z;subst Z;have B:=Qb f;cases hc:s.Jq b with
   | nil=>have t:=mW (by unfold qQ;rw[hc]);rw[hc]at C;refine Q9 func120 ntmps120 results120 λz w pl u=>?_;have F:=Qb q;have J:=Qb y;simp only[go_sem,q,y,C];exact t
   | cons a l=>
    rw[hc]at C f h4;have I:=h4 0 σ;simp only[go_sem,vn,List.getD_cons_zero]at I;have d1:decide (bytes<1)=false:=QN ω;have d0:(((l.length+1:Nat):Int)==0)=false:=ξ;have x:(0:Int)<((l.length+1:Nat):Int):=ω;have v:m<m+(l.length+1):=ω;have n1:P≠p:=λe=>by rw[e,q]at f;cases f
    have n2:P≠U:=λe=>by rw[e,y]at f;cases f
    have Y:O≠P:=λe=>by rw[<-e,K]at f;cases f
    have SK:∀k j g m n,Je V k=some (.ref j g m n)->j<h.length:=λk j g m n C=>by rcases T.ca k with ⟨L,_⟩|⟨j',_,_,_,L,_,f,_⟩;rw[C]at L;cases L;rw[C]at L;cases L;exact Qb f
    have a4:∀(E:kZ) (o:Ob),qQ s b done bytes c=⟨λk=>if k=b then l else s.Jq k,λk=>if k=b then E else s.rows k⟩ ->
      Step S h ((h.set O (Kb .i64 c2 M b (.agg E.cells))).set U (Kb .i64 c1 V b (.ref P g (m+1) l.length))++[o])/\qR (more S h) ((h.set O (Kb .i64 c2 M b (.agg E.cells))).set U (Kb .i64 c1 V b (.ref P g (m+1) l.length))++[o]) p (qQ s b done bytes c):=λE o e=>by
     rw[e];obtain⟨a5,F0,T1⟩:=T.row (h':=h.set O (Kb .i64 c2 M b (.agg E.cells))) (r:=E) (cls:=b) (QI W) (λj o R L=>by rw[Qo (Zb L)];exact R);have a1:(h.set O (Kb .i64 c2 M b (.agg E.cells))).length=h.length:=σ;have UW:more S (h.set O (Kb .i64 c2 M b (.agg E.cells)))=more S h:=by unfold more;rw[a1]
     refine⟨⟨λj R hn=>?_,σ⟩,?_⟩;rw[QG (zC R),Qo (λe=>hn (by rw[<-e];exact T.sc)),Qo (λe=>hn (by rw[<-e];exact T.sr))];rw[<-UW];refine T1.put (d:=.ref P g (m+1) l.length) P ?_ (λj o R L Z=>?_) (.inr ⟨P,g,m+1,a2,rfl,.inl hS,?_,λi hi=>?_⟩) (λj g m n e=>by cases e;rfl) (λk j g' AL n' QE ZO e=>?_) (Zb n1) Y;rw[QG (zC J),QI (zC J)];rw[QG (by have:=Qb R;simpa using this),Qo (Zb L),R];rw[QG (zC B),Qo (Zb n2),Qo Y,f];simp only[Kx,Q7,Ob.mk.injEq,yz,and_true];omega;rw[show m+1+i=m+(i+1) by omega,h4 (i+1) (zC hi)];simp;subst e;exact QE (T.sep _ _ _ _ _ _ _ _ _ ZO C)
    by_cases h5:done<a;have d2:=QY h5;have t:=mW (by unfold qQ;rw[hc];dsimp only;rw[Qd ω,Qe h5]);refine Q9 func120 ntmps120 results120 λz w pl u=>?_;have F:=Qb q;have J:=Qb y;have B:=Qb f;simp only[go_sem,q,y,f,C,d0,d1,d2,I];exact⟨x,v,t⟩
    .have d2:=QN h5;have e0:qQ s b done bytes c=⟨λk=>if k=b then l else s.Jq k,λk=>if k=b then An r a done bytes c else s.rows k⟩:=by unfold qQ;rw[hc];dsimp only;rw[Qd ω,Qd h5];congr 1;funext k;by_cases zy:k=b;rw[Qe zy,Qe zy,zy,<-BO];rw[Qd zy,Qd zy]
     have t:∀(o:Ob) (E:kZ),E=An r a done bytes c->∀n,n=l.length->Step S h ((h.set O (Kb .i64 c2 M b (.agg E.cells))).set U (Kb .i64 c1 V b (.ref P g (m+1) n))++[o])/\qR (more S h) ((h.set O (Kb .i64 c2 M b (.agg E.cells))).set U (Kb .i64 c1 V b (.ref P g (m+1) n))++[o]) p (qQ s b done bytes c):=λo E a3 n hn=>by subst hn;exact a4 E o (by rw[e0,a3])
     have w1:IntKind.u64.wrap ((r.p:Int)+1)=(((r.p+1)%18446744073709551616:Nat):Int):=RM r.p 1;have w2:IntKind.u64.wrap bytes=((bytes.toNat:Nat):Int):=κ;have w3:=RM r.b bytes.toNat
     have w4:IntKind.u64.wrap ((r.r:Int)+1)=(((r.r+1)%18446744073709551616:Nat):Int):=RM r.r 1;have Q:IntKind.u64.wrap ((done:Int)-(a:Int))=((done-a:Nat):Int):=κ;have w6:=RM r.w (done-a);have w7:max ((r.l:Nat):Int) ((done-a:Nat):Int)=((max r.l (done-a):Nat):Int):=ω;have H:(((l.length+1:Nat):Int)-1).toNat=l.length:=ω;have ZJ:(Je M b=some (.agg r.cells))\/(Je M b=none/\r=default):=by
      cases hh:Je M b with
      | some d=>rw[hh]at Z3;exact .inl (congrArg some Z3)
      | none=>rw[hh]at Z3;have Z3:D.agg (default:kZ).cells=D.agg r.cells:=Z3;exact .inr ⟨rfl,(kZ.QD0 (D.agg.inj Z3)).symm⟩
     rcases ZJ with ZJ|⟨ZJ,Xv⟩
     .refine Q9 func120 ntmps120 results120 λz w pl u=>?_;have F:=Qb q;have J:=Qb y;have B:=Qb f;have W:=Qb K;simp only[go_sem,Qj,q,y,f,K,C,d0,d1,d2,I,ZJ,w1,w2,w3];cases c with
      | true=>
       have N:=t ⟨.one,0,5,1,λ_=>(An r a done bytes true).cells⟩ _ rfl _ H;simp only[go_sem,An,↓reduceIte,H]at N;simp only[go_sem,Qj,w4];repeat (refine And.intro (by first|exact x|exact v|omega) ?_)
       apply Qy u i4;simp only[go_sem,Qj,f,B,I,Q,w6];repeat (refine And.intro (by first|exact x|exact v|omega) ?_)
       apply Qy u i4;simp only[go_sem,Qj,f,B,I,Q,w7];repeat (refine And.intro (by first|exact x|exact v|omega) ?_)
       apply Qy u i7;simp only[go_sem,Qj,q,F,K,W];repeat (refine And.intro (by first|exact x|exact v|omega) ?_)
       apply Qy u ut;simp only[go_sem,Qj,q,F,f,B,y,J,Qo EK.symm,Qo QE.symm,Qo Y];repeat (refine And.intro (by first|exact x|exact v|omega) ?_)
       simp only[go_sem,H];exact N
      | false=>
       have N:=t ⟨.one,0,5,1,λ_=>(An r a done bytes false).cells⟩ _ rfl _ H;simp only[go_sem,An,↓reduceIte,H,qq]at N;simp only[go_sem];repeat (refine And.intro (by first|exact x|exact v|omega) ?_)
       apply Qy u i4;simp only[go_sem,Qj,f,B,I,Q,w6];repeat (refine And.intro (by first|exact x|exact v|omega) ?_)
       apply Qy u i4;simp only[go_sem,Qj,f,B,I,Q,w7];repeat (refine And.intro (by first|exact x|exact v|omega) ?_)
       apply Qy u i7;simp only[go_sem,Qj,q,F,K,W];repeat (refine And.intro (by first|exact x|exact v|omega) ?_)
       apply Qy u ut;simp only[go_sem,Qj,q,F,f,B,y,J,Qo EK.symm,Qo QE.symm,Qo Y];repeat (refine And.intro (by first|exact x|exact v|omega) ?_)
       simp only[go_sem,H];exact N
     .have Xv:r=⟨0,0,0,0,0⟩:=Xv;subst Xv;have v1:IntKind.u64.wrap 1=1:=rfl;have v3:IntKind.u64.wrap (0+((bytes.toNat:Nat):Int))=(((0+bytes.toNat)%18446744073709551616:Nat):Int):=RM 0 bytes.toNat
      have v6:IntKind.u64.wrap (0+((done-a:Nat):Int))=(((0+(done-a))%18446744073709551616:Nat):Int):=RM 0 (done-a);have v7:max (0:Int) ((done-a:Nat):Int)=((max 0 (done-a):Nat):Int):=ω;refine Q9 func120 ntmps120 results120 λz w pl u=>?_;have F:=Qb q;have J:=Qb y;have B:=Qb f;have W:=Qb K;simp only[go_sem,Qj,q,y,f,K,C,d0,d1,d2,I,ZJ,w2,v1,v3];cases c with
      | true=>
       have N:=t ⟨.one,0,5,1,λ_=>(An ⟨0,0,0,0,0⟩ a done bytes true).cells⟩ _ rfl _ H;simp only[go_sem,An,↓reduceIte,H]at N;simp only[go_sem,Qj,v1];repeat (refine And.intro (by first|exact x|exact v|omega) ?_)
       apply Qy u i4;simp only[go_sem,Qj,f,B,I,Q,v6];repeat (refine And.intro (by first|exact x|exact v|omega) ?_)
       apply Qy u i4;simp only[go_sem,Qj,f,B,I,Q,v7];repeat (refine And.intro (by first|exact x|exact v|omega) ?_)
       apply Qy u i7;simp only[go_sem,Qj,q,F,K,W];repeat (refine And.intro (by first|exact x|exact v|omega) ?_)
       apply Qy u ut;simp only[go_sem,Qj,q,F,f,B,y,J,Qo EK.symm,Qo QE.symm,Qo Y];repeat (refine And.intro (by first|exact x|exact v|omega) ?_)
       simp only[go_sem,H];exact N
      | false=>
       have N:=t ⟨.one,0,5,1,λ_=>(An ⟨0,0,0,0,0⟩ a done bytes false).cells⟩ _ rfl _ H;simp only[go_sem,An,↓reduceIte,H,qq]at N;simp only[go_sem];repeat (refine And.intro (by first|exact x|exact v|omega) ?_)
       apply Qy u i4;simp only[go_sem,Qj,f,B,I,Q,v6];repeat (refine And.intro (by first|exact x|exact v|omega) ?_)
       apply Qy u i4;simp only[go_sem,Qj,f,B,I,Q,v7];repeat (refine And.intro (by first|exact x|exact v|omega) ?_)
       apply Qy u i7;simp only[go_sem,Qj,q,F,K,W];repeat (refine And.intro (by first|exact x|exact v|omega) ?_)
       apply Qy u ut;simp only[go_sem,Qj,q,F,f,B,y,J,Qo EK.symm,Qo QE.symm,Qo Y];repeat (refine And.intro (by first|exact x|exact v|omega) ?_)
       simp only[go_sem,H];exact N
def Ql2:QM prog 67 [] (QR (.agg [.raw (.int .u16 65535),.raw (.int .u16 65535),.raw (.int .u16 65535),.raw (.int .u16 65535)])):=by refine Q1 0 func67 ntmps67 results67 λa w b=>?_;simp only[go_sem]
def Ql3(i h g f e d c b):QM prog 66 [.agg [.raw (.int .u16 i),.raw (.int .u16 h),.raw (.int .u16 g),.raw (.int .u16 f)],.agg [.raw (.int .u16 e),.raw (.int .u16 d),.raw (.int .u16 c),.raw (.int .u16 b)]]
  (QR (.agg [.raw (.int .u16 (xw i e)),.raw (.int .u16 (xw h d)),.raw (.int .u16 (xw g c)),.raw (.int .u16 (xw f b))])):=by
 refine Q1 0 func66 ntmps66 results66 λj w a=>?_;simp only[go_sem];have n:IntKind.i64.wrap 1=1:=rfl;have m:IntKind.i64.wrap 2=2:=rfl;have l:IntKind.i64.wrap 3=3:=rfl;have k:IntKind.i64.wrap 4=4:=rfl;refine x6 4 ?_;apply Qg a;apply Qy a i9;simp only[go_sem];apply Qg a;apply Qy a i9;simp only[go_sem];apply Qg a;apply Qy a i9;simp only[go_sem];apply Qg a;apply Qy a i9;simp only[go_sem];apply Qg a;apply Qg a;rfl
theorem QD2(r:J6)(x:Pk):jo r (Z1 x)=(xw x.xX r.Ba==r.Mn&&(xw x.xY r.Bb==r.Mp&&(xw x.xZ r.FG==r.Mq&&(xw x.x5 r.DS==r.FH&&true)))):=rfl
@[go_sem] def mX(x:Pk):List D:=[.raw (.int .u16 x.xX),.raw (.int .u16 x.xY),.raw (.int .u16 x.xZ),.raw (.int .u16 x.x5)]
def Ql4(r:J6)(x):QM prog 114 [.agg r.cells,.agg (mX x)] (QR (QV (jo r (Z1 x)))):=by rw[QD2];refine Q1 0 func114 ntmps114 results114 λb w a=>?_;simp only[go_sem];apply Qy a [0,1,2,4,5,1003,6,7];simp only[go_sem];apply ZP a p5 (Ql3 x.xX x.xY x.xZ x.x5 r.Ba r.Bb r.FG r.DS);exact FK a
structure Ql5 (h:List Ob) (p:Nat) (dr:D) (le:Nat) (dm:D) (c:Nat) (es:List X0) (ms:List Nat) (R:List J6):Prop where
 o:(h.map Ob.ro)[p]?=some (NN dr le dm).ro
 eo:(h.map Ob.ro)[le]?=some (wN c es).ro
 rs:(dr=.nil/\R=[])\/∃lo g row,dr=.ref lo g 0 R.length/\(h.map Ob.ro)[lo]?=some ⟨.AH,g,9,R.length,row⟩/\∀i,i<R.length->row i=(R.getD i default).cells
 mo:(dm=.nil/\ms=[])\/∃lo g row,dm=.ref lo g 0 ms.length/\(h.map Ob.ro)[lo]?=some ⟨.AH,g,1,ms.length,row⟩/\∀i,i<ms.length->row i=[Qa ((ms.getD i 0:Nat):Int)]
 I:qk R R.length es ms
 ok:zK R=0
def QbA.toR{S h p l j m c k i R}(T:QbA S h p l j m c k i R):Ql5 h p l j m c k i R:=
 ⟨Jf T.o,Jf T.eo,T.rs.imp id λ⟨b,g,a,f,_,e,d⟩=>⟨b,g,a,f,Jf e,d⟩,T.mo.imp id λ⟨b,g,a,f,_,e,d⟩=>⟨b,g,a,f,Jf e,d⟩,T.I,T.ok⟩
def QbC{R}(h:zK R=0):∀r∈R,1<=r.cls:=λr a=>by unfold zK at h;split at h;cases h;split at h;rename_i b;have:=jt.1 b r a;unfold Ao at this;simp only[ZM,W3]at this;exact this.1.1;cases h
def inc_le:∀(c:List Nat) (n b:Nat),c.Pairwise (·<·)->(∀j∈c,b<=j/\j<n)->c.length<=n-b
 | [],n,b,_,_=>Z7 _
 | a::c,n,b,d,h=>by rw[AD]at d;have f:=h a σ;have:=inc_le c n (a+1) d.2 λj e=>⟨d.1 j e,(h j (by simp[e])).2⟩;simp only[Kx];omega
def QD3{h p dr le dm c es b R}(T:Ql5 h p dr le dm c es b R)(x)(hx:aQ x):
  Zl prog 77 h [.ptr p 0 0 0,.agg (mX x)] (λd=>d=.tup [Qa (Kc R (Z1 x)),Qa (if Kc R (Z1 x)=0 then 31 else 0)]):=by
 have l:=T.o;have y:=T.eo;have h4:=T.I.four;obtain⟨q,Y⟩:=Zc (Xy es (Z1 x));have EL:=Y;simp only[Z1]at EL;have a0:∀j,j<b.length->b.getD j 0∈b:=λj g=>YZ b 0 j g;have aT:∀i∈b,∃j,j<b.length/\b.getD j 0=i:=λi K=>by obtain⟨j,g,e⟩:=j8 K;exact⟨j,g,by rw[QU,QH g];exact e⟩
 have AQ:b.length<=32:=by
  have h1:=inc_le b R.length 0 T.I.inc λj g=>⟨Z7 j,((T.I.mem j).1 g).1⟩;have h2:R.length<=32:=by have:=T.ok;unfold zK at this;split at this;cases this;omega
  omega
 have a2:∀j k,j<k->k<b.length->b.getD j 0<b.getD k 0:=λj k WC hk=>by have:=List.pairwise_iff_getElem.1 T.I.inc j k ω hk WC;rw[QU,QU,QH hk,QH (show j<b.length from ω)];exact this
 have W:∀j k,j<b.length->b.getD j 0<b.getD k 0->j<k:=λj k g h=>j5 λhc=>by rcases Nat.lt_or_eq_of_le (Ll hc) with h2|h2;have:=a2 k j h2 g;omega;rw[h2]at h;omega
 cases q with
 | none=>
  have u:(∀j∈b,jo (JS R j) (Z1 x)=false)->Kc R (Z1 x)=0:=λz=>by unfold Kc;rw[T.I.none hx Y.symm z]
  rcases T.mo with ⟨rfl,rfl⟩|⟨lm,gm,a1,rfl,J,zA⟩
  .rw[u (λj g=>by cases g),Qe rfl];refine ZN func77 ntmps77 results77 λH w pl F P Zp f=>?_;rw[<-P]at l y;have n:=Qb l;have Q:=Qb y;simp only[go_sem];apply Qy f i6;simp only[go_sem,Qj,l,n,y,Q,<-EL];refine⟨h4,?_⟩;refine x6 0 ?_;apply Qg f;apply Qg f;all_goals exact Xp
  .refine ZN func77 ntmps77 results77 λH w pl F P Zp f=>?_;rw[<-P]at l y J;have n:=Qb l;have Q:=Qb y;have Z:=Qb J;simp only[go_sem];apply Qy f i6;simp only[go_sem,Qj,l,n,y,Q,<-EL];refine⟨h4,?_⟩;refine ZY (λk s=>(∀j,j<k->jo (JS R (b.getD j 0)) (Z1 x)=false)/\s=⟨[(0,.ptr p 0 0 0),(3,.ptr F.length 0 0 0),(6,Qa 0),(7,QV false),(24,.ref lm gm 0 b.length),(25,Qa b.length),(26,Qa k)],F++[(⟨.one,0,4,1,λ_=>mX x⟩:Ob)]⟩) b.length QP ⟨λj g=>absurd g (Yy j),rfl⟩ ?_;rintro k _ hk ⟨z,rfl⟩;by_cases t:k<b.length
   .have dk:=QY t;have QS:=JJ (show k<4611686018427387904 from ω);obtain⟨i,K⟩:=Zc (b.getD k 0);have MD:=a0 k t;rw[<-K]at MD;obtain⟨o,U⟩:=(T.I.mem i).1 MD;have I:=zA k t;rw[<-K]at I;rcases T.rs with ⟨h1,h2⟩|⟨lr,gr,mY,rfl,m,BO⟩;rw[h2]at o;simp at o;rw[<-P]at m;have C:=Qb m;have B:mY i=(JS R i).cells:=BO i o;obtain⟨r,E⟩:=Zc (JS R i);rw[<-E]at B;have M:=Ql4 r x;simp only[go_sem]at B I;cases O:jo r (Z1 x) with
    | false=>
     rw[O]at M;apply Qh f;simp only[go_sem,Qj,t,J,Z,I,Go.undef];apply Qy f i9;simp only[go_sem,Qj,l,n,m,C,B,o];apply ZP f gh M;apply Ms f;repeat (refine And.intro η ?_)
     refine⟨_,Qs.frame (fr':=[(0,.ptr p 0 0 0),(3,.ptr F.length 0 0 0),(6,Qa 0),(7,QV false),(24,.ref lm gm 0 b.length),(25,Qa b.length),(26,Qa (k+1:Nat))]) (by simp only[go_sem,QS]),λj g=>?_,rfl⟩;rcases xJ.1 g with h5|rfl;exact z j h5;rw[<-K,<-E];exact O
    | true=>
     rw[O]at M;have e0:Kc R (Z1 x)=r.cls:=by unfold Kc;rw[T.I.XZ hx o U (by rw[<-E];exact O) (λj g wP=>?_) (λa' Wi=>?_),<-E];obtain⟨v,N,L⟩:=aT j g;rw[<-L];exact z v (W v k N ω);rw[<-Y]at Wi;cases Wi
     have Dz:=QbC T.ok r (by rw[E];exact YZ R default i o);rw[e0,Qd ω];apply Qh f;simp only[go_sem,Qj,t,J,Z,I,Go.undef];apply Qy f i9;simp only[go_sem,Qj,l,n,m,C,B,o];apply ZP f gh M;apply Jb f;simp only[go_sem,Qj,l,n,m,C,B,o];all_goals exact Xp
   .have ZJ:k=b.length:=ω;have dk:=QN t;subst ZJ;have JR:∀j∈b,jo (JS R j) (Z1 x)=false:=λj g=>by obtain⟨v,N,L⟩:=aT j g;rw[<-L];exact z v N
    rw[u JR,Qe rfl];apply Qh f;simp only[go_sem,dk];apply Qg f;all_goals exact Xp
 | some d=>
  obtain⟨a,rfl,S,OX,Eo,a4⟩:=T.I.yes _ _ Y.symm;rcases T.rs with ⟨h1,h2⟩|⟨lr,gr,mY,rfl,m,BO⟩;rw[h2]at S;simp at S;have aU:mY a=(JS R a).cells:=BO a S;obtain⟨ra,V⟩:=Zc (JS R a);rw[<-V]at aU;have Gj:=QbC T.ok ra (by rw[V];exact YZ R default a S);have u:(∀j∈b,j<a->jo (JS R j) (Z1 x)=false)->Kc R (Z1 x)=ra.cls:=λz=>by unfold Kc;rw[(T.I.whole hx Y.symm z).2,<-V]
  simp only[go_sem]at aU;rcases T.mo with ⟨rfl,rfl⟩|⟨lm,gm,a1,rfl,J,zA⟩
  .rw[u (λj g=>by cases g),Qd ω];refine ZN func77 ntmps77 results77 λH w pl F P Zp f=>?_;rw[<-P]at l y m;have n:=Qb l;have Q:=Qb y;have C:=Qb m;simp only[go_sem];apply Qy f i6;simp only[go_sem,Qj,l,n,y,Q,<-EL];refine⟨h4,?_⟩;refine x6 0 ?_;apply Qg f;apply Qh f;simp only[go_sem,Qj,l,n,m,C,aU,S];all_goals exact Xp
  .refine ZN func77 ntmps77 results77 λH w pl F P Zp f=>?_;rw[<-P]at l y m J;have n:=Qb l;have Q:=Qb y;have C:=Qb m;have Z:=Qb J;simp only[go_sem];apply Qy f i6;simp only[go_sem,Qj,l,n,y,Q,<-EL];refine⟨h4,?_⟩;refine ZY (λk s=>(∀j,j<k->jo (JS R (b.getD j 0)) (Z1 x)=false)/\s=⟨[(0,.ptr p 0 0 0),(3,.ptr F.length 0 0 0),(6,Qa a),(7,QV true),(24,.ref lm gm 0 b.length),(25,Qa b.length),(26,Qa k)],F++[(⟨.one,0,4,1,λ_=>mX x⟩:Ob)]⟩) b.length QP ⟨λj g=>absurd g (Yy j),rfl⟩ ?_;rintro k _ hk ⟨z,rfl⟩;by_cases t:k<b.length
   .have dk:=QY t;have QS:=JJ (show k<4611686018427387904 from ω);obtain⟨i,K⟩:=Zc (b.getD k 0);have MD:=a0 k t;rw[<-K]at MD;obtain⟨o,U⟩:=(T.I.mem i).1 MD;have I:=zA k t;rw[<-K]at I;have B:mY i=(JS R i).cells:=BO i o;obtain⟨r,E⟩:=Zc (JS R i);rw[<-E]at B;have M:=Ql4 r x;simp only[go_sem]at B I;by_cases P4:a<i
    .have da:=QY P4;rw[u (λj g a3=>by obtain⟨v,N,L⟩:=aT j g;rw[<-L];exact z v (W v k N ω)),Qd ω]
     apply Qh f;simp only[go_sem,Qj,t,J,Z,I,da];apply Qh f;simp only[go_sem,Qj,l,n,m,C,aU,S];all_goals exact Xp
    .have da:=QN P4;cases O:jo r (Z1 x) with
     | false=>
      rw[O]at M;apply Qh f;simp only[go_sem,Qj,t,J,Z,I,da];apply Qy f i9;simp only[go_sem,Qj,l,n,m,C,B,o];apply ZP f gh M;apply Ms f;repeat (refine And.intro η ?_)
      refine⟨_,Qs.frame (fr':=[(0,.ptr p 0 0 0),(3,.ptr F.length 0 0 0),(6,Qa a),(7,QV true),(24,.ref lm gm 0 b.length),(25,Qa b.length),(26,Qa (k+1:Nat))]) (by simp only[go_sem,QS]),λj g=>?_,rfl⟩;rcases xJ.1 g with h5|rfl;exact z j h5;rw[<-K,<-E];exact O
     | true=>
      rw[O]at M;have e0:Kc R (Z1 x)=r.cls:=by unfold Kc;rw[T.I.XZ hx o U (by rw[<-E];exact O) (λj g wP=>?_) (λa' Wi=>?_),<-E];obtain⟨v,N,L⟩:=aT j g;rw[<-L];exact z v (W v k N ω);rw[<-Y]at Wi;have:=Oq Wi;simp only[Qa,D.raw.injEq,Value.int.injEq,yz]at this;omega
      have Dz:=QbC T.ok r (by rw[E];exact YZ R default i o);rw[e0,Qd ω];apply Qh f;simp only[go_sem,Qj,t,J,Z,I,da];apply Qy f i9;simp only[go_sem,Qj,l,n,m,C,B,o];apply ZP f gh M;apply Jb f;simp only[go_sem,Qj,l,n,m,C,B,o];all_goals exact Xp
   .have ZJ:k=b.length:=ω;have dk:=QN t;subst ZJ;rw[u (λj g _=>by obtain⟨v,N,L⟩:=aT j g;rw[<-L];exact z v N),Qd ω]
    apply Qh f;simp only[go_sem,dk];apply Qh f;simp only[go_sem,Qj,l,n,m,C,aU,S];all_goals exact Xp
end Go.Fg.X
namespace Go.Fg
open Go.RowKit (Below)
variable {Z:Nat->Prop}
section
variable {P:Program}{L:Jt}{base nt:Nat}{s:St}{o:Oper}
end
section
variable {P:Program}{L:Jt}{base nt:Nat}{w0:Start}{Q:Exit->St->Prop}
end
def mZ:D->Bool
 | .imm _ _ _=>true
 | .ref _ _ _ _=>true
 | .nil=>true
 | _=>false
section
variable {P:Program}{L:Jt}{base nt:Nat}{s:St}{o:Oper}
end
section
variable {P:Program}{L:Jt}{base nt:Nat}{w0:Start}{Q:Exit->St->Prop}
end
def aV:D->Nat
 | .imm _ n _=>n
 | _=>0
def QD5{h g w d v}(r:QF Z h g w d v)(j:mZ d=true):∃a n b,v=.slice a n b/\(a.isNone=true->aV d=0):=by
 cases d<;>simp only[mZ,qq]at j;all_goals first
  | (obtain⟨a,e⟩:=AJ r;exact⟨_,_,_,e,λ_=>rfl⟩)
  | (obtain⟨a,b,_,_,_,e,k,_⟩:=SF r;refine⟨_,_,_,e,λf=>Nat.eq_zero_of_not_pos λi=>?_⟩;have c:0<_:=i;simp only[aV]at c;rw[k c]at f;cases f)
  | (obtain⟨_,_,a,b,e,_⟩:=Fb r;exact⟨_,_,_,e,λ_=>rfl⟩)
section
variable {P:Program}{L:Jt}{base nt:Nat}{w0:Start}{Q:Exit->St->Prop}
def QD6(I:Jm P L){Q:Exit->St->Prop}{o:Oper}{c:List (Oper × G)}{s:St}{t k e a b:Nat}{x:Operand}{j:List Value}(B:o.op=.binOp .eql t x (.const (.slice none 0 0)) k)(p:mZ (Qr s.fr x)=true)(v:ty L t=some ⟨.slice e,a,b,j⟩)(h:Zr nt o.dst=true)
  (C:∀b:Bool,(b=true->aV (Qr s.fr x)=0)->AG P base nt w0 c Q ⟨Zi s.fr o.dst (.raw (.bool b)),s.h⟩):AG P base nt w0 ((o,none)::c) Q s:=by
 intro Z z l i w r b;obtain⟨d,n,f,q,H⟩:=QD5 (r.eval x) p;have F:i.eval (.const (.slice none 0 0))=.slice none 0 0:=rfl;have J:(execOp i.eval o).run P w=.ok (.value (.bool d.isNone)) w:=by
  have u:=yA (I _ _ v) rfl;have E:(Op.equal t (.slice d n f) (.slice none 0 0)).run P w=.ok d.isNone w:=oe λm=>by cases d<;>simp[Op.equalIn,run_underlying u]
  have y:(eqGuard .eql t x (.const (.slice none 0 0)) (.slice d n f) (.slice none 0 0)).run P w=.ok () w:=by simp[eqGuard]
  simp[execOp,B,q,F,Go.binOp,E,y]
 simp only[qA,XM,Vu];unfold Oper.wp;rw[J];simp only[Oper.upon_value];refine C _ H Z z l _ w ?_ b;cases g:o.dst with
 | none=>exact r
 | some t=>rw[g]at h;exact r.to (Tr.ext r.o λ_ _=>rfl) r.o (vE h) (.cl _ _ (.raw _))
def QD7(m:Jm P L){k:List Item}{c:Option Nat}{o:TypeId}{pos:String}{d:Array Edge}{n:Option (Nat × Bool)}{r:List (Oper × G)}{s:St}{t h e a b:Nat}{x:Operand}{g:List Value}
  (i:mZ (Qr s.fr x)=true) (j:ty L t=some ⟨.slice e,a,b,g⟩) (l:Zr nt c=true) (f:∀b:Bool,(b=true->aV (Qr s.fr x)=0)->QA P base nt w0 Q (.ops r::k) .normal ⟨Zi s.fr c (.raw (.bool b)),s.h⟩) :
  QA P base nt w0 Q (.ops ((⟨c,.binOp .eql t x (.const (.slice none 0 0)) h,o,pos,d,n⟩,none)::r)::k) .normal s:=by
 simp only[QA]at f ⊢;exact QD6 m rfl i j l f
end
end Go.Fg
namespace Go.Fg.X
open Go.Proofs Go.Fg
open Go.Proofs.Tryz
@[go_sem] def GD(l:List J6):D:=.imm 9 l.length (J6.rows l)
def QD8(h:List Ob)(l:List J6)(n:l.length<1000000):QO prog 65 h [GD l] (λd f=>∃g,f=h++g/\Ye (λj=>h.length<=j) (h++g) 9 J6.cells d l):=by
 refine Q9 func65 ntmps65 results65 λe w m a=>?_;simp only[go_sem];refine QD7 Ch (by simp only[go_sem];rfl) rfl rfl λb k=>?_;cases b with
 | true=>have c:=k rfl;simp only[go_sem,aV]at c;apply Qg a;exact⟨[],(JN h).symm,.inl ⟨rfl,Sq.1 c⟩⟩
 | false=>apply Kh a;refine⟨ω,_,rfl,.inr ⟨h.length,_,_,rfl,Qv _,Vq rfl,λi o=>?_⟩⟩;rw[yC (Z7 _)];rfl
def QD9(r:J6):(aN r.want r.mask==r.want)=(xw r.Mn r.Ba==r.Mn&&(xw r.Mp r.Bb==r.Mp&&(xw r.Mq r.FG==r.Mq&&xw r.FH r.DS==r.FH))):=by rw[<-Bool.and_true (xw r.FH r.DS==r.FH)];rfl
structure jU (h H:List Ob) (l:List J6) (k p:Nat) (dr:D) (le:Nat) (dm:D) (c:Nat) (es:List X0) (ms:List Nat):Prop where
 ex:VZ h H
 o:H[p]?=some (NN dr le dm)
 eo:H[le]?=some (wN c es)
 rs:Ye (λj=>h.length<=j) H 9 J6.cells dr l
 mo:Ye (λj=>h.length<=j) H 1 (λi:Nat=>[Qa i]) dm ms
 hp:h.length<=p
 he:h.length<=le
 I:qk l k es ms
 ok:∀j,j<k->Ao (JS l j)=true
def jU.app{h H l k p i e m c f d}(N:jU h H l k p i e m c f d)(g):jU h (H++g) l k p i e m c f d:=
 ⟨N.ex.app g,(QG (Qb N.o)).trans N.o,(QG (Qb N.eo)).trans N.eo,N.rs.step λj a b=>⟨b,QG a⟩,N.mo.step λj a b=>⟨b,QG a⟩,N.hp,N.he,N.I,N.ok⟩
def jU.next{h H l k p m f E c C s}(N:jU h H l k p m f E c C s){e:List Ob}{d r b a}(t:VZ h e)(u:e[p]?=some (NN m f d))(x:e[f]?=some (wN r b))
  (w:∀(j:Nat) (o:Ob),H[j]?=some o->o.kd=.arr->o.sz=9->e[j]?=some o) (v:Ye (λj=>h.length<=j) e 1 (λi:Nat=>[Qa i]) d a) (I:qk l (k+1) b a) (F:∀j,j<k+1->Ao (JS l j)=true):jU h e l (k+1) p m f d r b a:=
 ⟨t,u,x,N.rs.imp id λ⟨q,g,n,B,z,y,h4⟩=>⟨q,g,n,B,z,w q _ y rfl rfl,h4⟩,v,N.hp,N.he,I,F⟩
def XW{H:List Ob}{a b:Nat}{o c:Ob}(d:H[a]?=some o)(f:H[b]?=some c)(h:o.kd≠c.kd\/o.sz≠c.sz):a≠b:=λe=>by rw[e,f]at d;cases d;rcases h with h|h<;>exact h rfl
def jU.Ba{h H l k p d a c f}(N:jU h H l k p d a .nil c f [])(g:zL (JS l k)=false)(n:∀j,j<k+1->Ao (JS l j)=true)(o):
  jU h (H.set p (NN d a (.ref (H.length+2) 0 0 1))++[o,⟨.arr,0,1,1,λ_=>[Qa k]⟩,⟨.arr,0,1,1,λ_=>[Qa k]⟩]) l (k+1) p d a (.ref (H.length+2) 0 0 1) c f ([]++[k]):=by
 have hp:=Qb N.o;have q:p≠a:=XW N.o N.eo (.inl nofun);refine N.next ((N.ex.set N.hp _).app _) ?_ ?_ (λj o b m r=>?_) (.inr ⟨H.length+2,0,λ_=>[Qa k],rfl,by have:=N.ex.len;omega,VS (k:=2) σ,λi e=>?_⟩) (N.I.mask g) n;rw[QG (zC hp),QI hp];rw[QG (by simpa using Qb N.eo),Qo q];exact N.eo;rw[QG (by simpa using Qb b),Qo (XW N.o b (.inl (by rw[m];nofun)))];exact b;simp at e;subst e;rfl
def jU.Bb{h H:List Ob}{l k p q e c r}{a:List Nat}{b g d}(N:jU h H l k p q e (.ref b g 0 a.length) c r a)(s:h.length<=b)(f:H[b]?=some ⟨.arr,g,1,a.length,d⟩)(B:∀i,i<a.length->d i=[Qa ((a.getD i default:Nat):Int)])
  (v:zL (JS l k)=false) (z:∀j,j<k+1->Ao (JS l j)=true) (o u:Ob) :
  jU h ((H.set b ⟨.arr,g+1,1,a.length+1,J8 a.length 0 d λ_=>[Qa k]⟩).set p (NN q e (.ref b (g+1) 0 (a.length+1)))++[o,u]) l (k+1) p q e (.ref b (g+1) 0 (a.length+1)) c r (a++[k]):=by
 have hp:=Qb N.o;have t:=Qb f;have C:p≠e:=XW N.o N.eo (.inl nofun);have E:b≠p:=XW f N.o (.inl nofun);have F:b≠e:=XW f N.eo (.inl nofun);refine N.next (((N.ex.set s _).set N.hp _).app _) ?_ ?_ (λj o m y x=>?_) (.inr ⟨b,g+1,J8 a.length 0 d λ_=>[Qa k],σ,s,?_,λi w=>?_⟩) (N.I.mask v) z;rw[QG (zC hp),QI (zC hp)];rw[QG (by simpa using Qb N.eo),Qo C,Qo F];exact N.eo;rw[QG (by simpa using Qb m),Qo (XW N.o m (.inl (by rw[y];nofun))),Qo (XW f m (.inr (by rw[x];show (1:Nat)≠9;decide)))];exact m;rw[QG (zC t),Qo (Zb E),QI t];simp;simp at w;by_cases n:i<a.length;rw[BS n,JG,B i n];simp[n,JX n];have:i=a.length:=ω;subst this;rw[yC (Qv _)];simp
def jU.new{h H l}{k p:Nat}{r f s c e m}(N:jU h H l k p r f s c e m)(u:zL (JS l k)=true)(v:Xy e (JS l k).want=none)(y:∀j,j<k+1->Ao (JS l j)=true)(o):
  jU h (H.set f (wN (c+1) (e++[⟨(JS l k).want,Qa k,c⟩]))++[o]) l (k+1) p r f s (c+1) (e++[⟨(JS l k).want,Qa k,c⟩]) m:=by
 have n:=Qb N.eo;have keep:∀(j:Nat) (a:Ob),H[j]?=some a->a.kd≠.map->(H.set f (wN (c+1) (e++[⟨(JS l k).want,Qa k,c⟩]))++[o])[j]?=some a:=λj a b d=>by rw[QG (by simpa using Qb b),Qo (XW N.eo b (.inl (Zb d)))];exact b
 refine N.next ((N.ex.set N.he _).app _) (keep _ _ N.o nofun) ?_ (λj a b d q=>keep j a b (by rw[d];nofun)) (N.mo.imp id λ⟨t,g,i,d,q,x,w⟩=>⟨t,g,i,d,q,keep _ _ x nofun,w⟩) (N.I.new u v c) y;rw[QG (zC n),QI n]
def Ql7(h)(l:List J6)(hl:l.length<1000000):
  QO prog 41 h [GD l] (λd h'=>∃g,h'=h++g/\(zK l=0->∃p,d=.tup [.ptr p 0 0 0,Qa 0]/\IM (λj=>h.length<=j) (h++g) p l)/\(zK l≠0->d=.tup [.raw (.pointer none),Qa (zK l)])):=by
 by_cases kS:32<l.length;have d0:decide ((32:Int)<(l.length:Int))=true:=QY ω;have e:zK l=2:=by unfold zK;rw[Qe kS]
 rw[e];refine Q9 func41 ntmps41 results41 λM w pl a=>?_;simp only[go_sem,d0];exact⟨[],(JN h).symm⟩;have d0:decide ((32:Int)<(l.length:Int))=false:=QN ω;refine Q9 func41 ntmps41 results41 λM w pl a=>?_;simp only[go_sem,d0];refine ZT a QtP (QD8 h l hl) λd h1 hR=>?_;obtain⟨o,rfl,V⟩:=hR;have J:=Qds .i64;simp only[QT]at J;have L:YA d=some [d]:=by rcases V with ⟨rfl,_⟩|⟨_,_,_,rfl,_⟩<;>rfl
 have K:d.VF=true:=by rcases V with ⟨rfl,_⟩|⟨_,_,_,rfl,_⟩<;>rfl
 apply Qh a;simp only[go_sem,Qj,L,K];obtain⟨H,F⟩:=Zc (h++(o++[QT .i64 0 [],NN d (h.length+o.length) .nil]));have N0:jU h H l 0 (h.length+(o.length+1)) d (h.length+o.length) .nil 0 [] []:=by rw[<-WJ]at F;subst F;refine⟨((VZ.refl h).app o).app _,?_,?_,V.step λj f h1=>⟨h1,QG f⟩,.inl ⟨rfl,rfl⟩,ω,ω,qk.nil l,λj f=>absurd f (Yy j)⟩;rw[show h.length+(o.length+1)=(h++o).length+1 by simp;omega];exact VS (k:=1) rfl;rw[<-Qds .i64,show h.length+o.length=(h++o).length by simp];exact Vq rfl
 simp only[go_sem]at F;rw[<-F];obtain⟨p,hp⟩:=Zc (h.length+(o.length+1));rw[<-hp]at N0 ⊢;clear F;refine ZY (λk s=>∃H R O S c I m,jU h H l k p R O S c I m/\s=⟨[(4,.ptr p 0 0 0),(17,GD l),(18,Qa l.length),(19,Qa k)],H⟩) l.length QP ⟨H,_,_,_,_,_,_,N0,rfl⟩ ?_;clear N0 V L K J H hp d o;rintro k _ hk ⟨H,R,O,S,c,I,m,N,rfl⟩;by_cases t:k<l.length;have dk:=QY t;obtain⟨r,i⟩:=Zc (JS l k);have T:l.getD k default=r:=i.symm;have WT:r∈l:=by rw[i];exact YZ l default k t
 have E:=JJ (show k<4611686018427387904 from ω);have u:=N.o;have y:=Qb u;have Q:=N.eo;have YK:=Qb Q;have h4:=N.I.four;have P:=QD9 r;have B:Ao r=false->zK l=1:=λa=>by unfold zK;rw[Qd kS,Qd];intro JR;have:=jt.1 JR r WT;rw[a]at this;cases this
 have U:=Ql3 r.Mn r.Mp r.Mq r.FH r.Ba r.Bb r.FG r.DS;by_cases c1:r.cls<1;have d1:=QY c1;rw[B (by unfold Ao;rw[QN (show ¬1<=r.cls from ω)];rfl)];apply Qh a;simp only[go_sem,Qj,t,T];apply Qy a o07;simp only[go_sem,Qj,d1,Go.undef];exact N.ex.app _;have d1:=QN c1;by_cases c2:65536<r.cls;have d2:=QY c2;rw[B (by unfold Ao;rw[QN (show ¬r.cls<=65536 from ω),Lb];rfl)];apply Qh a;simp only[go_sem,Qj,t,T];apply Qy a o07;simp only[go_sem,Qj,d1,d2,Go.undef];exact N.ex.app _;have d2:=QN c2;cases Y:aN r.want r.mask==r.want with
 | false=>rw[B (by unfold Ao;rw[Y,Lb])];rw[Y]at P;apply Qh a;simp only[go_sem,Qj,t,T];apply Qy a o07;simp only[go_sem,Qj,d1,d2];apply ZP a p5 U;apply Jb a;simp only[go_sem,Qj,<-P];exact N.ex.app _
 | true=>
  rw[Y]at P;have ZS:∀j,j<k+1->Ao (JS l j)=true:=λj f=>by rcases xJ.1 f with h5|rfl;exact N.ok j h5;rw[<-i];unfold Ao;rw[Y,QY (show 1<=r.cls from ω),QY (show r.cls<=65536 from ω)];rfl
  obtain⟨q,hq⟩:=Zc (Xy I r.want);have W:=hq;simp only[J6.want]at W;have hw:zL r=(r.Ba==65535&&(r.Bb==65535&&(r.FG==65535&&r.DS==65535))):=rfl;obtain⟨b,x⟩:=Zc (zL r);rw[<-x]at hw;apply Qh a;simp only[go_sem,Qj,t,T];apply Qy a o07;simp only[go_sem,Qj,d1,d2];apply ZP a p5 U;apply Jb a;simp only[go_sem,Qj,<-P];cases q with
  | none=>
   apply Qy a [0,1,2,3,4,5,6,7,8,9,10,11];simp only[go_sem,Qj,u,y,Q,YK,<-W];refine⟨h4,?_⟩;apply Qy a [0,1,1002,3,4];simp only[go_sem,Qj];apply ZP a Qf6 Ql2;apply Jb a;simp only[go_sem,Qj,<-hw];cases b with
   | false=>
    rcases N.mo with ⟨rfl,rfl⟩|⟨lm,gm,a0,rfl,xk,v,Z⟩;have n:=N.Ba (by rw[<-i,<-x]) ZS ⟨.one,0,9,1,λ_=>r.cells⟩;simp only[go_sem,Qj,u,y];refine⟨t,_,Qs.frame (fr':=[(4,.ptr p 0 0 0),(17,GD l),(18,Qa l.length),(19,Qa (k+1:Nat))]) (by simp only[go_sem,E]),_,_,_,_,_,_,_,n,rfl⟩;have n:=N.Bb xk v Z (by rw[<-i,<-x]) ZS ⟨.one,0,9,1,λ_=>r.cells⟩ ⟨.arr,0,1,1,λ_=>[Qa k]⟩;have Zq:=Qb v;have F3:lm≠p:=XW v u (.inl nofun);have C:m.length<=4294967295:=by have:=inc_le m k 0 N.I.inc λj f=>⟨Z7 j,((N.I.mem j).1 f).1⟩;omega
    have a1:m.length+1<=4294967295:=by have:=inc_le m k 0 N.I.inc λj f=>⟨Z7 j,((N.I.mem j).1 f).1⟩;omega
    simp only[go_sem,Qj,u,y,v,Zq,Qo F3,C];repeat (refine And.intro η ?_)
    refine⟨_,Qs.frame (fr':=[(4,.ptr p 0 0 0),(17,GD l),(18,Qa l.length),(19,Qa (k+1:Nat))]) (by simp only[go_sem,E]),_,_,_,_,_,_,_,n,rfl⟩
   | true=>simp only[go_sem];apply Qy a ut;simp only[go_sem,Qj,u,y,Q,YK,<-W];have n:=N.new (by rw[<-i,<-x]) (by rw[<-i];exact hq.symm) ZS ⟨.one,0,9,1,λ_=>r.cells⟩;rw[<-i]at n;refine⟨h4,t,_,Qs.frame (fr':=[(4,.ptr p 0 0 0),(17,GD l),(18,Qa l.length),(19,Qa (k+1:Nat))]) (by simp only[go_sem,E]),_,_,_,_,_,_,_,n,rfl⟩
  | some d=>
   apply Qy a [0,1,2,3,4,5,6,7,8,9,10,11];simp only[go_sem,Qj,u,y,Q,YK,<-W];refine⟨h4,?_⟩;apply Qy a [0,1,1002,3,4];simp only[go_sem,Qj];apply ZP a Qf6 Ql2;apply Jb a;simp only[go_sem,Qj,<-hw];cases b with
   | false=>
    rcases N.mo with ⟨rfl,rfl⟩|⟨lm,gm,a0,rfl,xk,v,Z⟩;have n:=N.Ba (by rw[<-i,<-x]) ZS ⟨.one,0,9,1,λ_=>r.cells⟩;simp only[go_sem,Qj,u,y];refine⟨t,_,Qs.frame (fr':=[(4,.ptr p 0 0 0),(17,GD l),(18,Qa l.length),(19,Qa (k+1:Nat))]) (by simp only[go_sem,E]),_,_,_,_,_,_,_,n,rfl⟩;have n:=N.Bb xk v Z (by rw[<-i,<-x]) ZS ⟨.one,0,9,1,λ_=>r.cells⟩ ⟨.arr,0,1,1,λ_=>[Qa k]⟩;have Zq:=Qb v;have F3:lm≠p:=XW v u (.inl nofun);have C:m.length<=4294967295:=by have:=inc_le m k 0 N.I.inc λj f=>⟨Z7 j,((N.I.mem j).1 f).1⟩;omega
    have a1:m.length+1<=4294967295:=by have:=inc_le m k 0 N.I.inc λj f=>⟨Z7 j,((N.I.mem j).1 f).1⟩;omega
    simp only[go_sem,Qj,u,y,v,Zq,Qo F3,C];repeat (refine And.intro η ?_)
    refine⟨_,Qs.frame (fr':=[(4,.ptr p 0 0 0),(17,GD l),(18,Qa l.length),(19,Qa (k+1:Nat))]) (by simp only[go_sem,E]),_,_,_,_,_,_,_,n,rfl⟩
   | true=>simp only[go_sem];have z:=N.app [⟨.one,0,9,1,λ_=>r.cells⟩];have n:jU h (H++[⟨.one,0,9,1,λ_=>r.cells⟩]) l (k+1) p R O S c I m:=⟨z.ex,z.o,z.eo,z.rs,z.mo,z.hp,z.he,N.I.there (by rw[<-i,<-x]) (by rw[<-i,<-hq];rfl),ZS⟩;refine⟨t,_,Qs.frame (fr':=[(4,.ptr p 0 0 0),(17,GD l),(18,Qa l.length),(19,Qa (k+1:Nat))]) (by simp only[go_sem,E]),_,_,_,_,_,_,_,n,rfl⟩
 have ZJ:k=l.length:=ω;have dk:=QN t;subst ZJ;have J:zK l=0:=by unfold zK;rw[Qd kS,Qe];rw[jt];intro r i;obtain⟨j,f,e⟩:=j8 i;have:=N.ok j f;unfold JS at this;rw[QU,QH f]at this;rw[<-e];exact this
 apply Qh a;simp only[go_sem,dk];apply Qg a;obtain⟨g,rfl⟩:=N.ex;refine⟨g,rfl,λ_=>⟨p,rfl,R,O,S,c,I,m,N.o,N.eo,N.rs,N.mo,N.hp,N.he,N.I,J⟩,λh=>absurd J h⟩
@[go_sem] def BB(d:D):Ob:=⟨.one,0,1,1,λ_=>[d]⟩
structure jq (n:Nat) (own:Nat->Tag) (tw:Nat->TT) (h:List Ob) (bp bo op:Nat) (L:List Ev):Prop where
 hp:h[bp]?=some (BB (Qa op))
 ho:∃d,h[bo]?=some (BB d)/\Ye (λl=>n<=l/\own l=.no/\tw l=.no/\l≠bp/\l≠bo) h 12 Ev.cells d L
 np:n<=bp
 no:n<=bo
 op:own bp=.no
 oo:own bo=.no
 tp:tw bp=.no
 to:tw bo=.no
 ne:bp≠bo
def jq.Ap{n i g o u}{h r:List Ob}{s t p L}(E:jq n i o h s t p L)(D:JK h.length i o h g u r):jq n g u r s t p L:=by obtain⟨d,q,v⟩:=E.ho;have k:=Qb E.hp;have l:=Qb q;exact⟨(D.keep _ k E.op E.tp).trans E.hp,⟨d,(D.keep _ l E.oo E.to).trans q,v.step λj m ⟨a,b,c,e,f⟩=>⟨⟨a,(D.s1 j m).trans b,(D.s2 j m).trans c,e,f⟩,D.keep j m b c⟩⟩,E.np,E.no,(D.s1 _ k).trans E.op,(D.s1 _ l).trans E.oo,(D.s2 _ k).trans E.tp,(D.s2 _ l).trans E.to,E.ne⟩
def JK.YV{m n b a c e h d}(f:m<=n)(D:JK n b c h a e d):JK m b c h a e d:=⟨D.s1,D.s2,λl g=>D.keep l (wB g f),D.my,D.len⟩
def QEb{n a c}{h i:List Ob}{m d}(r:n<=m)(q:a m=.no)(p:c m=.no)(b:d<h.length->n<=d/\a d=.no/\c d=.no)(s:n<=h.length)(o:h.length<=i.length)
  (k:∀j,j<h.length->j≠m->j≠d->i[j]? = h[j]?):JK n a c h (Q5 a h .no) (Ju c h .no) i/\mU a c h (Q5 a h .no) (Ju c h .no) i:=by
 refine⟨⟨λl b=>KB b,λl b=>VW b,λl t _ _=>k l ω ω λe=>?_,λl Qb g=>k l Qb (λe=>by rw[e,p]at g;cases g) λe=>?_,o⟩,λl Qb=>⟨λf=>⟨KB Qb,k l Qb (λe=>f.1 (by rw[e,q])) λe=>?_⟩,λf _=>⟨VW Qb,k l Qb (λe=>f (by rw[e,p])) λe=>?_⟩⟩⟩;have:=(b ω).1;omega;rw[e,(b ω).2.2]at g;cases g;exact f.1 (by rw[e];exact(b ω).2.1);exact f (by rw[e];exact(b ω).2.2)
def m6{a b h}(e:∀l,b l≠.no->a l=.no):∀l,Ju b h .no l≠.no->Q5 a h .no l=.no:=λl c=>by by_cases d:l<h.length;rw[VW d]at c;rw[KB d];exact e l c;exact k9 ω
def Qma{n a f}{h:List Ob}{s p c}{L:List Ev}(E:jq n a f h s p c L)(V:n<=h.length)(hL:L.length<1000000000)(e:Ev):
  QO prog 43 h [.agg e.cells,.ptr s 0 0 0,.ptr p 0 0 0] (λd m=>d=.tup []/\jq n (Q5 a h .no) (Ju f h .no) m s p c (L++[{ e with op:=c }])/\JK n a f h (Q5 a h .no) (Ju f h .no) m/\mU a f h (Q5 a h .no) (Ju f h .no) m):=by
 have q:=E.hp;obtain⟨d,u,W⟩:=E.ho;have S:=E.ne;have y:=Qb q;have r:=Qb u;have b:∀(m:List Ob) (B:D) (o:Nat),m[s]?=some (BB (Qa c))->m[p]?=some (BB B)->Ye (λl=>n<=l/\Q5 a h .no l=.no/\Ju f h .no l=.no/\l≠s/\l≠p) m 12 Ev.cells B (L++[{ e with op:=c }])->(o<h.length->n<=o/\a o=.no/\f o=.no)->h.length<=m.length ->
   (∀j,j<h.length->j≠p->j≠o->m[j]? = h[j]?)->jq n (Q5 a h .no) (Ju f h .no) m s p c (L++[{ e with op:=c }])/\JK n a f h (Q5 a h .no) (Ju f h .no) m/\mU a f h (Q5 a h .no) (Ju f h .no) m:=λm B o a1 a2 a3 a4 a5 a6=>
  ⟨⟨a1,⟨B,a2,a3⟩,E.np,E.no,(KB y).trans E.op,(KB r).trans E.oo,(VW y).trans E.tp,(VW r).trans E.to,E.ne⟩,QEb E.no E.oo E.to a4 V a5 a6⟩
 rcases W with ⟨rfl,rfl⟩|⟨o,g,v,rfl,⟨Q,P,O,N,F⟩,H,U⟩;have b:=b (h.set p (BB (.ref (h.length+2) 0 0 1))++[⟨.one,0,12,1,λ_=>({ e with op:=c }:Ev).cells⟩,⟨.arr,0,12,1,λ_=>({ e with op:=c }:Ev).cells⟩,⟨.arr,0,12,1,λ_=>({ e with op:=c }:Ev).cells⟩]) (.ref (h.length+2) 0 0 1) h.length
  (by rw[QG (zC y),Qo S.symm];exact q) (by rw[QG (zC r),QI r])
  (.inr ⟨h.length+2,0,λ_=>({ e with op:=c }:Ev).cells,rfl,⟨ω,k9 ω,GA ω,ω,ω⟩,VS (k:=2) σ,λi z=>by simp at z;subst z;rfl⟩) (λh=>absurd h (BK _)) σ (λj I J R=>by rw[QG (zC I),Qo (Zb J)])
 refine Q9 func43 ntmps43 results43 λx w T Y=>?_;have K:=Qb q;have M:=Qb u;simp only[go_sem,Qj,q,K,u,M];simp only[go_sem]at b ⊢;exact b;have t:=Qb H;have Z:L.length<=4294967295:=ω;have mK:L.length+1<=4294967295:=ω;have b:=b ((h.set o ⟨.arr,g+1,12,L.length+1,J8 L.length 0 v λ_=>({ e with op:=c }:Ev).cells⟩).set p (BB (.ref o (g+1) 0 (L.length+1)))++[⟨.one,0,12,1,λ_=>({ e with op:=c }:Ev).cells⟩,⟨.arr,0,12,1,λ_=>({ e with op:=c }:Ev).cells⟩]) (.ref o (g+1) 0 (L.length+1)) o
  (by rw[QG (zC y),Qo S.symm,Qo N];exact q) (by rw[QG (zC r),QI (zC r)])
  (.inr ⟨o,g+1,J8 L.length 0 v λ_=>({ e with op:=c }:Ev).cells,σ,⟨Q,(KB t).trans P,(VW t).trans O,N,F⟩,by rw[QG (zC t),Qo F.symm,QI t];simp,λi z=>by simp at z;by_cases C:i<L.length;rw[BS C,JG,U i C];simp[C,JX C];have:i=L.length:=ω;subst this;rw[yC (Qv _)];simp⟩) (λ_=>⟨Q,P,O⟩) σ (λj I J R=>by rw[QG (zC I),Qo (Zb J),Qo (Zb R)])
 refine Q9 func43 ntmps43 results43 λx w T Y=>?_;have K:=Qb q;have M:=Qb u;have t:=Qb H;simp only[go_sem,Qj,q,K,u,M,H,t,Qo F,Z];simp only[go_sem]at b ⊢;repeat (refine And.intro η ?_)
 exact b
def QEc{k m h p S}(T:Yw k m h p S):Zl prog 81 h [.ptr p 0 0 0] (λd=>d=u64 (Zf S)):=by obtain⟨s,n,t,r,T⟩:=T;have i:=Jf T.o;obtain⟨a,b,c,g⟩:=T.ln;have g:=Jf g;obtain⟨L,C⟩:=T.co.ex;have j:=Qk6 C.ro T.co.I;have q:=λ(F:List Ob) (f:F=h.map Ob.ro)=>QDP (h:=F) (VM f _ _ g);have j:=λ(F:List Ob) (f:F=h.map Ob.ro)=>Qk6 (C.ro.more (VM f)) T.co.I;clear T C;unfold Zf;obtain⟨v,o⟩:=Zc (Vm S.M);rw[<-o]at j ⊢;refine ZN func81 ntmps81 results81 λl w n F f x e=>?_;rw[<-f]at i g;have y:=Qb i;have u:=Qb g;simp only[go_sem];apply Qy e [0,1,2,3,4,5,6,7,9,10,11,12,1008,1013,1014,15];simp only[go_sem,i];apply KW e Quh (q F f);apply ZB e;apply KW e Qui (j F f);apply ZB e;apply ZP e Qug (QDX S.Qc S.Ja v);apply ZB e;all_goals exact Xp
def Qmb{n o x}{h:List Ob}{p S}(T:Yw o x h p S)(V:ZQ S){bp bo s}{L:List Ev}(E:jq n o x h bp bo s L)(C:n<=h.length)(hL:L.length<100000000):
  QO prog 80 h [.ptr p 0 0 0,u64 S.Qc,.clo 43 0 [.ptr bp 0 0 0,.ptr bo 0 0 0]] (λd F=>d=.tup []/\∃r JF,Yw r JF F p (Z2 S s S.Qc).1/\jq n r JF F bp bo s (L++(Z2 S s S.Qc).2)/\JK n o x h r JF F):=by
 obtain⟨ps,lp,pr,pt,T⟩:=T;have B:=T.o;obtain⟨a,b,c,hl⟩:=T.ln;have U:=QbB (Jf hl) S.Qc;by_cases hu:S.Ja<=S.Qc
 .have du:=QY hu;rw[du]at U;refine Q9 func80 ntmps80 results80 λQ w pl i=>?_;have Qq:=Qb B;simp only[go_sem,B];apply ZH i fT U;apply Qh i;simp only[go_sem,B];refine ZT i Qud (QDf T.co S.Qc) λd f y=>?_;obtain⟨rfl,O,C1,D1⟩:=y;have T1:=T.core D1 C1 (yr S.M S.Qc);have N:JK h.length o x h O (Ju x h .no) f:=JK.core T.ap (Qv _) D1;obtain⟨Y,a7⟩:=Zc (Ju x h .no);rw[<-a7]at T1 N;have E1:=E.Ap N;have ar:=N.len;obtain⟨j,hj⟩:=Zc (Jc S.M S.Qc);obtain⟨k,W⟩:=Zc (JA S.M S.Qc);obtain⟨b,wE⟩:=Zc (WY S.M S.Qc);cases ht:Wn S.M S.Qc with
  | false=>
   have e:Z2 S s S.Qc=({ S with M:=takeN S.M S.Qc },[]):=by unfold Z2;rw[Qd ω,Qd (by rw[ht];exact xE)]
   rw[e,<-hj,<-W,<-wE];apply Kh i;have u:=T1.GC [⟨.one,0,8,1,λ_=>zH j k b⟩];have v:=JK.app (n:=f.length) O Y f [⟨.one,0,8,1,λ_=>zH j k b⟩] .my (Qv _);exact⟨_,_,⟨_,_,_,_,u⟩,E1.Ap v,(N.YV C).trans C (v.YV ω)⟩
  | true=>
   have m:=V.take_len ht;have YB:=IF V.K m;rw[<-W]at m YB;have xk:=V.K.l2;have Zw:=V.cl;obtain⟨done,P⟩:=Zc (S.Qc+WI S.M.lk k.len);have e:Z2 S s S.Qc=({ S with M:=takeN S.M S.Qc,Ja:=done,st:=qQ S.st j done k.len b },[Dc s b S.Qc done j k]):=by unfold Z2;rw[Qd ω,Qe ht,<-W,<-P,<-hj,<-wE]
   rw[e,<-hj,<-W,<-wE];have u:=T1.GC [⟨.one,0,8,1,λ_=>zH j k b⟩];have v:=N.trans (Qv _) ((JK.app (n:=f.length) O Y f [⟨.one,0,8,1,λ_=>zH j k b⟩] .my (Qv _)).YV ar);have E2:=E.Ap v;have H:(f++[(⟨.one,0,8,1,λ_=>zH j k b⟩:Ob)])[f.length]?=some ⟨.one,0,8,1,λ_=>zH j k b⟩:=Vq rfl;have n2:Q5 O f .no f.length=.no:=k9 (Qv _);have m2:Ju Y f .my f.length=.my:=GA (Qv _);apply Kh i;obtain⟨q,RO⟩:=Zc (f++[(⟨.one,0,8,1,λ_=>zH j k b⟩:Ob)]);rw[<-RO]at u v E2 H;simp only[go_sem,zH]at RO;rw[<-RO];clear RO;generalize Q5 O f .no=Kr at u v E2 n2;generalize Ju Y f .my=ql at u v E2 m2;have VQ:=u.o;have Gq:=Qb VQ;have Ex:=Qb H;obtain⟨a2,b2,c2,JY⟩:=u.ln;have YJ:(takeN S.M S.Qc).lk=S.M.lk:=yr S.M S.Qc;have R:=QDT q JY (by show 1<=(takeN S.M S.Qc).lk.t;rw[YJ];exact V.K.t1) (by show (takeN S.M S.Qc).lk.t<=65536;rw[YJ];exact V.K.t2) Zw hu k ⟨m.1,ω⟩;have a6:S.Qc+k.len.toNat*(takeN S.M S.Qc).lk.t.toNat=done:=by rw[YJ,P];rfl
   have R:QO prog 119 q [.ptr lp 0 0 0,u64 S.Qc,.agg k.cells] (λd F=>d=.tup [u64 done,Qa 0]/\∃a' b' c' g,F=q.set lp (jT a' b' c' (takeN S.M S.Qc).lk.t done)++g):=by rw[<-a6];exact R
   simp only[go_sem,zH]at H;apply VI [7] i [0,1,2,3,4,5,6,1007,8,9,10,11,12] [];simp only[go_sem,VQ,H];refine vO i Que R λd z y=>?_;obtain⟨rfl,a3,b3,c3,g3,aW⟩:=y;have a0:=u.tl;have s3:Step (λl=>ql l=.ln) q z:=by rw[aW];exact⟨λl hl QE=>by rw[QG (zC hl),Qo (λe=>QE (by rw[<-e];exact a0))],σ⟩
   have F1:z[lp]?=some (jT a3 b3 c3 (takeN S.M S.Qc).lk.t done):=by rw[aW,QG (by simpa using Qb JY),QI (Qb JY)]
   have I:=u.link s3 F1;have K:=v.trans (Qv _) ((JK.part (n:=q.length) (own:=Kr) (t:=.ln) ⟨σ,σ⟩ (Qv _) s3).YV v.len);have E3:=E.Ap K;have jN:z[f.length]?=some _:=(s3.keep _ Ex (by rw[m2];simp)).trans H;have n3:Q5 Kr q .no f.length=.no:=(KB Ex).trans n2;have m3:Ju ql q .ln f.length=.my:=(VW Ex).trans m2;clear aW R;generalize Q5 Kr q .no=Bv at I K E3 n3;generalize Ju ql q .ln=m9 at I K E3 m3;have YL:=I.o;have NA:=Qb YL;have U6:=Qb jN;apply ZB i;have a5:=QD1 I.st j (done:=done) ω (bytes:=k.len) m.1 ω b;apply VI [12] i [0,1,2,3,4,5,6,7,8,9,10,11,1012] [];simp only[go_sem,YL,jN];refine vO i Quf a5 λd h4 y=>?_;obtain⟨s4,a4⟩:=y;have Z:=I.stat s4 a4;have J:=K.trans (Qv _) ((JK.part (n:=z.length) (own:=Bv) (t:=.st) ⟨σ,σ⟩ (Qv _) s4).YV K.len);have E4:=E.Ap J;have WG:h4[f.length]?=some _:=(s4.keep _ U6 (by rw[m3];simp)).trans jN;generalize Q5 Bv z .no=a8 at Z J E4;generalize Ju m9 z .st=a9 at Z J E4;have b0:=Qb WG;apply Jb i;simp only[go_sem,WG];have aK:n<=h4.length:=J5 C J.len;refine z6 i Qf0 rfl ?_ (Qma E4 aK ω (Dc 0 b S.Qc done j k)) rfl λd h5 y=>?_;simp only[go_sem,Dc];obtain⟨rfl,E5,K5,a1⟩:=y;have T5:=Z.step a1 (m6 Z.ap);have xM:({ Dc 0 b S.Qc done j k with op:=(s:Int) }:Ev)=Dc s b S.Qc done j k:=rfl;rw[xM]at E5;apply Qg i;exact⟨_,_,⟨_,_,_,_,T5⟩,E5,(J.YV C).trans C K5⟩
 have du:=QN hu;rw[du]at U;have e:Z2 S s S.Qc=(S,[]):=by unfold Z2;rw[Qe ω]
 rw[e];refine Q9 func80 ntmps80 results80 λQ w pl i=>?_;have Qq:=Qb B;simp only[go_sem,B];apply ZH i fT U;apply Qg i;exact⟨o,x,⟨_,_,_,_,T⟩,E,JK.refl n o x h⟩
@[go_sem] def qh.cells(r:qh):List D:=[Qa r.err,Qa r.place,Qa r.cls]
def jq.loc{n a f}{h:List Ob}{b c i L}(E:jq n a f h b c i L){l}{j:Ob}(p:h[l]?=some j)(q:j.kd≠.arr)(s:l≠b)(r:l≠c)(o):jq n a f (h.set l o) b c i L:=by obtain⟨d,x,w⟩:=E.ho;exact⟨by rw[Qo s];exact E.hp,⟨d,by rw[Qo r];exact x,w.imp id λ⟨m,g,e,v,u,k,t⟩=>⟨m,g,e,v,u,by rw[Qo (XW p k (.inl q))];exact k,t⟩⟩,E.np,E.no,E.op,E.oo,E.tp,E.to,E.ne⟩
def JK.Ep{n b a e f}{h H:List Ob}(D:JK n b e h a f H){l}(k:n<=l)(i:h.length<=l)(o):JK n b e h a f (H.set l o):=⟨D.s1,D.s2,λj d c g=>by rw[Qo ω];exact D.keep j d c g,λj d c=>by rw[Qo ω];exact D.my j d c,by simpa using D.len⟩
def QEi{n g H}{h:List Ob}{p}{S:Zy}(T:Yw g H h p S)(V:ZQ S){bp bo f}{L:List Ev}(E:jq n g H h bp bo f L)(v:n<=h.length)(hL:L.length<10000000)(Gj:∀k,(S.st.Jq k).length<1000000)(x)(hx:aQ x):
  QO prog 46 h [.ptr p 0 0 0,.agg x.cells,.clo 43 0 [.ptr bp 0 0 0,.ptr bo 0 0 0]] (λd h'=>d=.agg (Yv S f x).r.cells/\∃m JF,Yw m JF h' p (Yv S f x).S/\jq n m JF h' bp bo f (L++(Yv S f x).l)/\JK n g H h m JF h'):=by
 obtain⟨ps,lp,pr,pt,T⟩:=T;have Zw:=V.cl;have o:=T.GC [⟨.one,0,6,1,λ_=>x.cells⟩,⟨.one,0,3,1,λ_=>[Qa 0,Qa 0,Qa 0]⟩];have z:=JK.app (n:=h.length) g H h [⟨.one,0,6,1,λ_=>x.cells⟩,⟨.one,0,3,1,λ_=>[Qa 0,Qa 0,Qa 0]⟩] .my (Qv _);have W:=E.Ap z;have s:(h++[(⟨.one,0,6,1,λ_=>x.cells⟩:Ob),⟨.one,0,3,1,λ_=>[Qa 0,Qa 0,Qa 0]⟩])[h.length]?=some ⟨.one,0,6,1,λ_=>x.cells⟩:=Vq rfl;have Q:(h++[(⟨.one,0,6,1,λ_=>x.cells⟩:Ob),⟨.one,0,3,1,λ_=>[Qa 0,Qa 0,Qa 0]⟩])[h.length+1]?=some ⟨.one,0,3,1,λ_=>[Qa 0,Qa 0,Qa 0]⟩:=VS (k:=1) rfl;have I:∀i,h.length<=i->Q5 g h .no i=.no:=λi hi=>k9 hi;have m1:∀i,h.length<=i->Ju H h .my i=.my:=λi hi=>GA hi;have ar:h.length+2=(h++[(⟨.one,0,6,1,λ_=>x.cells⟩:Ob),⟨.one,0,3,1,λ_=>[Qa 0,Qa 0,Qa 0]⟩]).length:=σ;refine Q9 func46 ntmps46 results46 λb0 w pl b=>?_;simp only[go_sem,Qj];obtain⟨j,Dd⟩:=Zc (h++[(⟨.one,0,6,1,λ_=>x.cells⟩:Ob),⟨.one,0,3,1,λ_=>[Qa 0,Qa 0,Qa 0]⟩]);rw[<-Dd]at o z W s Q ar;simp only[go_sem]at Dd;rw[<-Dd];clear Dd;generalize Q5 g h .no=JM at o z W I;generalize Ju H h .my=K at o z W m1;have Z9:=o.o;have Nx:=Qb Z9;have GF:=Qb s;have De:=Qb Q;obtain⟨dr,le,dm,cc,es,ms,Tb⟩:=o.tb;have F:=QD3 Tb.toR x hx;obtain⟨a,u⟩:=Zc (Kc S.R (Z1 x));rw[<-u]at F;by_cases J:a=0;have e:Yv S f x=⟨S,⟨31,0,0⟩,[]⟩:=by unfold Yv;rw[Qe (by rw[<-u];exact J)]
 rw[e];rw[Qe J,J]at F;simp only[go_sem]at s;apply Qy b [0,1,2,3,4,5,1006,7,8,9,10,11];simp only[go_sem,Z9,s];apply KW b Qf8 F;apply Jb b;simp only[go_sem,Q,QI De];exact⟨JM,K,⟨_,_,_,_,o.loc (I _ ω) (.inr (m1 _ ω)) _⟩,W.loc Q nofun (by have:=Qb E.hp;omega) (by obtain⟨d,j,_⟩:=E.ho;have:=Qb j;omega) _,(z.YV v).Ep ω ω _⟩;have nb:h.length+1≠bp/\h.length+1≠bo:=by obtain⟨d,j,_⟩:=E.ho;have:=Qb j;have:=Qb E.hp;omega
 rw[Qd J]at F;have P:=QDe o.co S.Qc ω a x;simp only[go_sem]at s;obtain⟨q,ng⟩:=Zc (qO S.M S.Qc a x);rw[<-ng]at P;apply Qy b [0,1,2,3,4,5,1006,7,8,9,10,11];simp only[go_sem,Z9,s];apply KW b Qf8 F;apply ZB b;apply VI [10] b [0,1,2,3,4,5,6,7,8,9,1010,11] [];simp only[go_sem,Z9,s];refine vO b QtT P λd l y=>?_;obtain⟨rfl,t,C2,N⟩:=y;have U:=o.core N C2 (BA S.M S.Qc a x);have a0:JK j.length JM K j t (Ju K j .no) l:=JK.core o.ap (Qv _) N;have K2:=z.trans (Qv _) (a0.YV z.len);have E2:=W.Ap a0;have VR:l[h.length]?=some _:=(N.keep _ GF (I _ (Qv _))).trans s;have ZK:l[h.length+1]?=some _:=(N.keep _ De (I _ ω)).trans Q;have n2:t (h.length+1)=.no:=(N.same _ De).trans (I _ ω);have b2:t h.length=.no:=(N.same _ GF).trans (I _ ω);have m2:Ju K j .no (h.length+1)=.my:=(VW De).trans (m1 _ ω);have Y:Ju K j .no h.length=.my:=(VW GF).trans (m1 _ ω);generalize Ju K j .no=O at U K2 E2 m2 Y;have VQ:=U.o;have Gq:=Qb VQ;have a8:=Qb VR;have xA:=Qb ZK;apply ZB b;by_cases he:q=0;have Rm:(q != 0)=false:=by simpa using he
 have a4:ZQ { S with M:=Zx S.M S.Qc a x,st:=wu S.st a S.Qc }:=(V.put a x).Jq a S.Qc (by show S.Qc<_;omega);have e:Yv S f x=⟨(Z2 { S with M:=Zx S.M S.Qc a x,st:=wu S.st a S.Qc } f S.Qc).1,⟨0,0,a⟩,Xs f S.Qc a x::(Z2 { S with M:=Zx S.M S.Qc a x,st:=wu S.st a S.Qc } f S.Qc).2⟩:=by unfold Yv;rw[Qd (by rw[<-u];exact J),Qe (by rw[<-u,<-ng];exact he),<-u]
 rw[e];have a7:=QDZ U.st a S.Qc (Gj a);simp only[go_sem,Rm];apply VI [9] b [0,1,2,3,4,5,6,7,8,1009] [];simp only[go_sem,VQ];refine vO b QtU a7 λd r y=>?_;obtain⟨rfl,s3,a3⟩:=y;have R:=U.stat s3 a3;have Z:JK l.length t O l (Q5 t l .no) (Ju O l .st) r:=JK.part ⟨σ,σ⟩ (Qv _) s3;have K3:=K2.trans (Qv _) (Z.YV K2.len);have E3:=E2.Ap Z;have Ea:r[h.length]?=some _:=(s3.keep _ a8 (by rw[Y];simp)).trans VR;have Ab:r[h.length+1]?=some _:=(s3.keep _ xA (by rw[m2];simp)).trans ZK;have n3:Q5 t l .no (h.length+1)=.no:=(KB xA).trans n2;have m3:Ju O l .st (h.length+1)=.my:=(VW xA).trans m2;generalize Q5 t l .no=Bv at R K3 E3 n3;generalize Ju O l .st=m9 at R K3 E3 m3;have YL:=R.o;have NA:=Qb YL;have b3:=Qb Ea;have NQ:=Qb Ab;have Bh:n<=r.length:=J5 v K3.len;apply ZB b;apply VI [8] b [0,1,2,3,4,5,6,7,1008] [];simp only[go_sem,YL,Ea];refine yP b Qf0 rfl ?_ (Qma E3 Bh ω (Xs 0 S.Qc a x)) rfl λd h4 y=>?_;simp only[go_sem,Xs];obtain⟨rfl,E4,nh,a2⟩:=y;have T4:=R.step a2 (m6 R.ap);have K4:=(K3.YV v).trans v nh;have P3:h4[h.length+1]?=some _:=(nh.my _ NQ m3).trans Ab;have n4:Q5 Bv r .no (h.length+1)=.no:=(KB NQ).trans n3;have m4:Ju m9 r .no (h.length+1)=.my:=(VW NQ).trans m3;have xM:({ Xs 0 S.Qc a x with op:=(f:Int) }:Ev)=Xs f S.Qc a x:=rfl;rw[xM]at E4;generalize Q5 Bv r .no=a9 at T4 E4 K4 nh n4;generalize Ju m9 r .no=b1 at T4 E4 K4 nh m4;have Rp:=T4.o;have b4:=Qb Rp;have C:=Qb P3;have aK:n<=h4.length:=J5 v K4.len;apply Jb b;simp only[go_sem,Rp];have a6:=Qmb (T:=⟨_,_,_,_,T4⟩) a4 E4 aK ξ;refine ZT b Qf9 a6 λd h5 y=>?_;obtain⟨rfl,Br,a1,⟨_,_,_,_,T5⟩,E5,K5⟩:=y;have B:h5[h.length+1]?=some _:=(K5.my _ C m4).trans P3;have n5:=(K5.s1 _ C).trans n4;have m5:=(K5.s2 _ C).trans m4;have a5:=Qb B;rw[WJ]at E5;apply Qh b;simp only[go_sem,B,QI a5];exact⟨Br,a1,⟨_,_,_,_,T5.loc n5 (.inr m5) _⟩,E5.loc B nofun nb.1 nb.2 _,(K4.trans v K5).Ep ω ω _⟩;have e:Yv S f x=⟨{ S with M:=Zx S.M S.Qc a x },⟨q,0,a⟩,[]⟩:=by unfold Yv;rw[Qd (by rw[<-u];exact J),Qd (by rw[<-u,<-ng];exact he),<-u,<-ng]
 have Rm:(q != 0)=true:=by simpa using he
 rw[e];simp only[go_sem,Rm,ZK,QI xA];exact⟨t,O,⟨_,_,_,_,U.loc n2 (.inr m2) _⟩,E2.loc ZK nofun nb.1 nb.2 _,(K2.YV v).Ep ω ω _⟩
def jR.q64{a h p M}(C:jR a h p M)(j:Int):(Q4 M j).length<=64:=by
 unfold Q4 Qz;cases b:Qi M.N j with
 | none=>exact Z7 _
 | some n=>
  show n.q.l.length<=64;cases d:n.c.leaf with
  | true=>obtain⟨L,c⟩:=C.ex;obtain⟨k,e,r,Q⟩:=c.XS j n b d;have:=Q.ring.tO;omega
  | false=>rw[C.V.CZ j n b d];exact Z7 _
def QbP(f:Ql->Nat)(b):∀l:List Ql,(∀c∈l,f c<=b)->(l.map f).sum<=l.length*b
 | [],_=>σ
 | c::l,h=>by have g:=h c σ;have e:=QbP f b l λd a=>h d (by simp[a]);simp only[Jr,j9,Kx,KE,Lp];omega
def jR.aX{a h p M}(C:jR a h p M):Wf M<=4096:=by have e:=QbP (λc=>(Q4 M c.iD).length) 64 M.T λc _=>C.q64 c.iD;have b:=C.I.tree.len;unfold Wf;have d:M.T.length*64<=64*64:=V6 64 b;omega
def aY(S:Zy)(b a:Nat):(Z2 S b a).2.length<=1:=by unfold Z2;split;exact Z7 _;split;exact Qv _;exact Z7 _
def JK.QbQ{n c a d k}{h H:List Ob}(D:JK n c d h a k H){p}(i:d p=.sys)(o):JK n c d h a k (H.set p o):=
 ⟨D.s1,D.s2,λj g b f=>by rw[Qo (λe=>by rw[<-e,i]at f;cases f)];exact D.keep j g b f,λj g b=>by rw[Qo (λe=>by rw[<-e,i]at b;cases b)];exact D.my j g b,by simpa using D.len⟩
structure Qmg (n:Nat) (own:Nat->Tag) (tw:Nat->TT) (h:List Ob) (p:Nat) (S:Zy) (bp bo op e:Nat) (L:List Ev) (r k:Nat) (own':Nat->Tag) (JF:Nat->TT) (H:List Ob) (S':Zy) (L':List Ev):Prop where
 T:Yw own' JF H p S'
 V:ZQ S'
 E:jq n own' JF H bp bo op (L++L')
 K:JK n own tw h own' JF H
 hr:H[r]?=some ⟨.one,0,3,1,λ_=>[Qa 0,Qa 0,Qa 0]⟩
 nr:own' r=.no
 mr:JF r=.my
 hk:Wf S'.M+k=Wf S.M
 cl:S'.Qc<=e
 go:K7 op e (Wf S.M+1) S=((K7 op e (Wf S'.M+1) S').1,L'++(K7 op e (Wf S'.M+1) S').2)
 ln:L'.length<=k
def QEq{n c g}{h:List Ob}{p S}(T:Yw c g h p S)(V:ZQ S){j l b}{L:List Ev}(E:jq n c g h j l b L)(y:n<=h.length)(hL:L.length<10000000)(i)(YB:i<18446744073709551616):
  QO prog 47 h [.ptr p 0 0 0,u64 i,.clo 43 0 [.ptr j 0 0 0,.ptr l 0 0 0]] (λd Z=>d=.agg (qi S b i).r.cells/\∃f C,Yw f C Z p (qi S b i).S/\jq n f C Z j l b (L++(qi S b i).l)/\JK n c g h f C Z):=by
 obtain⟨ps,lp,pr,pt,T⟩:=T;have Zw:=V.cl;have nb:h.length≠j/\h.length≠l:=by obtain⟨d,m,_⟩:=E.ho;have:=Qb m;have:=Qb E.hp;omega
 have T1:=T.GC [⟨.one,0,3,1,λ_=>[Qa 0,Qa 0,Qa 0]⟩];have K1:=JK.app (n:=h.length) c g h [⟨.one,0,3,1,λ_=>[Qa 0,Qa 0,Qa 0]⟩] .my (Qv _);have E1:=E.Ap K1;have W6:(h++[(⟨.one,0,3,1,λ_=>[Qa 0,Qa 0,Qa 0]⟩:Ob)])[h.length]?=some ⟨.one,0,3,1,λ_=>[Qa 0,Qa 0,Qa 0]⟩:=Vq rfl;have n1:Q5 c h .no h.length=.no:=k9 (Qv _);have m1:Ju g h .my h.length=.my:=GA (Qv _);have x:=T.o;have O:=Qb x;have w1:IntKind.u64.wrap ((4611686018427387904:Int)-(S.Qc:Int))=((4611686018427387904-S.Qc:Nat):Int):=κ;by_cases K:4611686018427387904-S.Qc<i;have e:qi S b i=⟨S,⟨27,0,0⟩,[]⟩:=by unfold qi;rw[Qe K]
 rw[e];have d0:=QY K;refine Q9 func47 ntmps47 results47 λI w pl o=>?_;have O:=Qb x;simp only[go_sem,Qj,x,O,w1,d0];exact⟨_,_,⟨_,_,_,_,T.GC _⟩,E.Ap (JK.app c g h _ .my (Qv _)),(JK.app c g h _ .my (Qv _)).YV y⟩;have d0:=QN K;obtain⟨e,he⟩:=Zc (S.Qc+i);have w2:IntKind.u64.wrap ((S.Qc:Int)+(i:Int))=((e:Nat):Int):=κ;have hA:qi S b i=⟨(K7 b e (Wf S.M+1) S).1,⟨0,0,0⟩,(K7 b e (Wf S.M+1) S).2⟩:=by unfold qi;rw[Qd K,<-he]
 rw[hA];refine Q9 func47 ntmps47 results47 λI w pl o=>?_;have O:=Qb x;simp only[go_sem,Qj,x,O,w1,d0,w2];have A0:Qmg n c g h p S j l b e L h.length 0 (Q5 c h .no) (Ju g h .my) (h++[(⟨.one,0,3,1,λ_=>[Qa 0,Qa 0,Qa 0]⟩:Ob)]) S []:=
  ⟨⟨_,_,_,_,T1⟩,V,by rw[JN];exact E1,K1.YV y,W6,n1,m1,ω,ω,rfl,Qv _⟩
 have a4:=T.co.aX;refine ZY (λk s=>∃f C H S' L',Qmg n c g h p S j l b e L h.length k f C H S' L'/\s=⟨[(0,.ptr p 0 0 0),(2,.clo 43 0 [.ptr j 0 0 0,.ptr l 0 0 0]),(6,.ptr h.length 0 0 0),(7,u64 e)],H⟩) (Wf S.M) QP ⟨_,_,_,S,[],A0,rfl⟩ ?_;clear A0 T1 K1 E1 W6 n1 m1;rintro k _ hk ⟨Kr,ql,H,a,L2,A,rfl⟩;obtain⟨v,u,t,r,q⟩:=A.T;have B:=q.o;have Gq:=Qb B;have N:=QEc ⟨v,u,t,r,q⟩;obtain⟨Y,U⟩:=Zc (Zf a);rw[<-U]at N;have M:=A.hr;have xA:=Qb M;have J:p≠j/\p≠l:=⟨λe=>(by have m:=q.tp;rw[e,A.E.tp]at m;cases m),λe=>(by have m:=q.tp;rw[e,A.E.to]at m;cases m)⟩;have EK:p≠h.length:=λe=>by have:=T.o;have:=Qb this;omega
 apply Qg o;apply ZH o QtV N;apply Qg o;by_cases Q:e<Y;have d1:=QY Q;have W:K7 b e (Wf a.M+1) a=({ a with Qc:=e },[]):=by unfold K7;rw[Qe (by rw[<-U];exact Q)]
 have z:=A.go;rw[W,JN]at z;rw[z];simp only[go_sem,Qj,d1,B,Qo EK,M,xA,QI];have a1:(H.set p (jS v u t r e a.ops))[h.length]?=some ⟨.one,0,3,1,λ_=>[Qa 0,Qa 0,Qa 0]⟩:=(Qo EK).trans M;exact⟨Kr,ql,⟨_,_,_,_,(q.clock e a.ops).loc A.nr (.inr A.mr) _⟩,(A.E.loc B nofun J.1 J.2 _).loc a1 nofun nb.1 nb.2 _,(A.K.QbQ T.tp _).Ep y (Qv _) _⟩;have d1:=QN Q;have F:Zf a<=e:=ω;obtain⟨V3,c1,c2,c3⟩:=QlU A.V b ω F;have W:K7 b e (Wf a.M+1) a=((K7 b e (Wf a.M) (Z2 { a with Qc:=Zf a } b (Zf a)).1).1,(Z2 { a with Qc:=Zf a } b (Zf a)).2++(K7 b e (Wf a.M) (Z2 { a with Qc:=Zf a } b (Zf a)).1).2):=by
  conv=>lhs;unfold K7
  rw[Qd (by rw[<-U];exact Q)]
 have z:=A.go;rw[W,<-c1,<-WJ]at z;have Zk:=aY { a with Qc:=Zf a } b (Zf a);subst U;have T3:=q.clock (Zf a) a.ops;have V2:ZQ { a with Qc:=Zf a,ops:=a.ops }:=A.V.at_ c2 ω;have E3:=A.E.loc B nofun J.1 J.2 (jS v u t r (Zf a) a.ops);have Ab:(H.set p (jS v u t r (Zf a) a.ops))[h.length]?=some _:=(Qo EK).trans M;have K3:=A.K.QbQ T.tp (jS v u t r (Zf a) a.ops);have Bh:n<=(H.set p (jS v u t r (Zf a) a.ops)).length:=J5 y K3.len;have Fx:=A.ln;have yG:=A.hk;have P:=Qmb (T:=⟨_,_,_,_,T3⟩) V2 E3 Bh (by rw[Zn];omega);simp only[go_sem,d1,B];refine ZT o Qf9 P λd h5 hR=>?_;obtain⟨rfl,Br,a0,T5,E5,R⟩:=hR;have NQ:=Qb Ab;apply Qg o;have a3:Wf (Z2 { a with Qc:=Zf a } b (Zf a)).1.M+(k+1)=Wf S.M:=ω;have a2:(L2++(Z2 { a with Qc:=Zf a } b (Zf a)).2).length<=k+1:=by rw[Zn];omega
 refine⟨ω,_,Qs.frame (fr':=[(0,.ptr p 0 0 0),(2,.clo 43 0 [.ptr j 0 0 0,.ptr l 0 0 0]),(6,.ptr h.length 0 0 0),(7,u64 e)]) (by simp only[go_sem]),Br,a0,h5,_,L2++(Z2 { a with Qc:=Zf a } b (Zf a)).2,⟨T5,V3,by rw[<-WJ];exact E5,K3.trans y R,(R.my _ NQ A.mr).trans Ab,(R.s1 _ NQ).trans A.nr,(R.s2 _ NQ).trans A.mr,a3,by rw[c3];exact F,z,a2⟩,rfl⟩
def BC(a:Nat->TT)(n:Nat):Nat->TT:=λl=>if l=n+2\/l=n+3 then .no else if n<=l then .my else a l
def ni{a n l}(h:l<n):BC a n l=a l:=by unfold BC;rw[Qd ω,Qd ω]
def Qmh{a n l}(h:l=n+2\/l=n+3):BC a n l=.no:=by unfold BC;rw[Qe h]
def QEu{a n l}(h:n<=l)(c:l≠n+2)(b:l≠n+3):BC a n l=.my:=by unfold BC;rw[Qd ω,Qe h]
structure aZ (S:Zy):Prop where
 ca:∀k,(S.st.Jq k).length<=S.ops
structure GG (own:Nat->Tag) (tw:Nat->TT) (h:List Ob) (p:Nat) (op:Nat) (S':Zy) (L:List Ev) (r:qh) (own':Nat->Tag) (JF:Nat->TT) (H:List Ob) (d:D):Prop where
 T:Yw own' JF H p S'
 E:jq h.length own' JF H (h.length+3) (h.length+2) op L
 K:JK h.length own tw h own' JF H
 B2:H[h.length+1]?=some ⟨.one,0,3,1,λ_=>[Qa 0,Qa 0,Qa 0]⟩
 hr:H[h.length+4]?=some ⟨.one,0,3,1,λ_=>r.cells⟩
 ho:H[h.length+2]?=some (BB d)
 hs:Ye (λl=>h.length<=l/\own' l=.no/\JF l=.no/\l≠h.length+3/\l≠h.length+2) H 12 Ev.cells d L
 n1:own' (h.length+1)=.no
 m1:JF (h.length+1)=.my
 n4:own' (h.length+4)=.no
 m4:JF (h.length+4)=.my
def DoR(e:Nat->Tag)(g:Nat->TT)(h:List Ob)(p:Nat)(Y:NM)(d:D)(b:List Ob):Prop:=
 ∃f a c,d=.tup [.agg Y.r.cells,f]/\Yw a c b p Y.S/\Ye (λl=>h.length<=l/\a l=.no/\c l=.no) b 12 Ev.cells f Y.l/\JK h.length e g h a c b
def GG.done{b f h p l j L r a k H d}(I:GG b f h p l j L r a k H d)(o):
  DoR b f h p ⟨j,r,L⟩ (.tup [.agg r.cells,d]) (H.set (h.length+1) o):=by
 obtain⟨t,v,u,s,T⟩:=I.T;refine⟨d,a,k,rfl,⟨_,_,_,_,T.loc I.n1 (.inr I.m1) o⟩,I.hs.imp id λ⟨m,g,e,q,c,i,n⟩=>⟨m,g,e,q,⟨c.1,c.2.1,c.2.2.1⟩,by rw[Qo (XW I.B2 i (.inl nofun))];exact i,n⟩,I.K.Ep ω ω o⟩
def GG.next{b k h p g v L r o l H d}(I:GG b k h p g v L r o l H d){m n e c f}
  (u:Yw e c f p m) (q:jq h.length e c f (h.length+3) (h.length+2) g n) (a:JK h.length o l H e c f):∃d2,GG b k h p g m n r e c f d2:=by
 obtain⟨d2,t,s⟩:=q.ho;have j:=Qb I.B2;have i:=Qb I.hr;exact⟨d2,u,q,I.K.trans (Qv _) a,(a.my _ j I.m1).trans I.B2,(a.my _ i I.m4).trans I.hr,t,s,(a.s1 _ j).trans I.n1,(a.s2 _ j).trans I.m1,(a.s1 _ i).trans I.n4,(a.s2 _ i).trans I.m4⟩
def GG.bc{a c}{h:List Ob}{p f k L r l j}{H:List Ob}{d}(I:GG a c h p f k L r l j H d)(e:qh):GG a c h p f k L e l j (H.set (h.length+4) ⟨.one,0,3,1,λ_=>e.cells⟩) d:=by
 obtain⟨t,v,u,s,T⟩:=I.T;exact⟨⟨_,_,_,_,T.loc I.n4 (.inr I.m4) _⟩,I.E.loc I.hr nofun ω ω _,I.K.Ep ω ω _,by rw[Qo ω];exact I.B2,QI (Qb I.hr),by rw[Qo ω];exact I.ho,
  I.hs.imp id λ⟨m,g,b,q,o,i,n⟩=>⟨m,g,b,q,o,by rw[Qo (XW I.hr i (.inl nofun))];exact i,n⟩,I.n1,I.m1,I.n4,I.m4⟩
def QEv{f u h p}{S:Zy}(T:Yw f u h p S)(V:ZQ S)(hC:aZ S)(e1:S.ops<1000000)(o:Zt)(ho:Zt.Ok o)(hc:o.changes.length<1000000)(Kf:o.rules.length<1000000):
  QO prog 24 h [.ptr p 0 0 0,.agg o.cells] (λd h'=>DoR f u h p (J3 S o) d h'):=by
 obtain⟨ps,lp,pr,pt,T⟩:=T;have hp:=T.o;have RN:=Qb hp;have QS:=JJ (show S.ops<4611686018427387904 from ω);have eS:J3 S o=K8 { S with ops:=S.ops+1 } S.ops o:=rfl;rw[eS];obtain⟨a,yl⟩:∃a,a={ S with ops:=S.ops+1 }:=⟨_,rfl⟩;have T0:WZ f u (h.set p (jS ps lp pr pt S.Qc (S.ops+1))) p ps lp pr pt { S with ops:=S.ops+1 }:=T.clock S.Qc (S.ops+1);rw[<-yl]at T0 ⊢;obtain⟨H,hH⟩:=Zc (h.set p (jS ps lp pr pt S.Qc (S.ops+1))++[(⟨.one,0,10,1,λ_=>o.cells⟩:Ob),⟨.one,0,3,1,λ_=>[Qa 0,Qa 0,Qa 0]⟩,BB .nil,BB (Qa S.ops),⟨.one,0,3,1,λ_=>[Qa 1,Qa 0,Qa 0]⟩]);have jA:(h.set p (jS ps lp pr pt S.Qc (S.ops+1))).length=h.length:=σ;have ne:∀l,l<h.length->(BC u h.length l)=u l:=λl m=>ni m;have t:WZ (Q5 f h .no) (BC u h.length) H p ps lp pr pt a:=by rw[hH];refine T0.step (λl m=>⟨λ_=>⟨KB (by rw[<-jA];exact m),QG m⟩,λ_ _=>⟨ni (by rw[<-jA];exact m),QG m⟩⟩) λl m=>?_;by_cases h1:l<h.length;rw[ni h1]at m;rw[KB h1];exact T.ap l m;exact k9 ω
 have K1:JK h.length f u h (Q5 f h .no) (BC u h.length) H:=by rw[hH];refine⟨λl m=>KB m,λl m=>ni m,λl m h1 y=>?_,λl m h1=>?_,σ⟩;rw[QG (by rw[jA];exact m),Qo (λe=>by rw[<-e,T.tp]at y;cases y)];rw[QG (by rw[jA];exact m),Qo (λe=>by rw[<-e,T.tp]at h1;cases h1)]
 have n:∀k x,[(⟨.one,0,10,1,λ_=>o.cells⟩:Ob),⟨.one,0,3,1,λ_=>[Qa 0,Qa 0,Qa 0]⟩,BB .nil,BB (Qa S.ops),⟨.one,0,3,1,λ_=>[Qa 1,Qa 0,Qa 0]⟩][k]?=some x->H[h.length+k]?=some x:=λk x hk=>by rw[hH,VS (k:=k) jA];exact hk
 have N:jq h.length (Q5 f h .no) (BC u h.length) H (h.length+3) (h.length+2) S.ops []:=
  ⟨n 3 _ rfl,⟨.nil,n 2 _ rfl,.inl ⟨rfl,rfl⟩⟩,ω,ω,k9 ω,k9 ω,Qmh (.inr rfl),Qmh (.inl rfl),ω⟩
 have U:H[h.length]?=some ⟨.one,0,10,1,λ_=>o.cells⟩:=n 0 _ rfl;have be:=n 1 _ rfl;have bg:=n 2 _ rfl;have W6:=n 4 _ rfl;have n1:∀i,h.length<=i->Q5 f h .no i=.no:=λi hi=>k9 hi;have m1:∀i,h.length<=i->i≠h.length+2->i≠h.length+3->BC u h.length i=.my:=λi hi y h3=>QEu hi y h3;clear n ne jA;generalize FD:Q5 f h .no=K at t K1 N n1;generalize RV:BC u h.length=B at t K1 N m1;have XX:=t.o;have c0:=Qb XX;have Nx:=Qb U;have b6:=Qb be;have b9:=Qb bg;have De:=Qb W6;have e0:a.Qc=S.Qc:=by rw[yl]
 have V1:ZQ a:=by rw[yl];exact V.ops _
 have KY:h.length<=H.length:=K1.len;refine Q9 func24 ntmps24 results24 λc7 w pl j=>?_;have RN:=Qb hp;simp only[go_sem,Qj,hp,RN,QS];simp only[go_sem]at hH U W6 be bg;rw[<-hH];clear hH;have RW:h.length+1≠h.length+2:=ω;have bj:h.length+4≠h.length+2:=ω;have bk:h.length+4≠h.length+1:=ω;have Z:GG f u h p S.ops a [] ⟨1,0,0⟩ K B H .nil:=⟨⟨_,_,_,_,t⟩,N,K1,be,W6,bg,.inl ⟨rfl,rfl⟩,n1 _ ω,m1 _ ω ω ω,n1 _ ω,m1 _ ω ω ω⟩;obtain⟨yH,⟨_,yp⟩,⟨_,c8⟩,xB,YB,_⟩:=ho;by_cases J:o.kind=1
 .have Q:(o.kind==1)=true:=by simpa using J
  obtain⟨la,lb,lc,JC⟩:=t.ln;have F:=QbB (Jf JC) a.Qc;obtain⟨bf,b0⟩:=Zc (decide (a.Ja<=a.Qc));have e:K8 a S.ops o=⟨{ a with M:=Kp a.M bf o.changes },⟨qf a.M bf o.changes,Aj a.M o.changes,0⟩,[]⟩:=by unfold K8;rw[Qe J,<-b0]
  rw[e];rw[<-b0]at F;have C:=QDg t.co bf o.changes yp hc;obtain⟨ce,b8⟩:=Zc (qf a.M bf o.changes);obtain⟨ca,Gj⟩:=Zc (Aj a.M o.changes);rw[<-b8,<-Gj]at C ⊢;simp only[go_sem,Q];apply VI [15] j [0,1,2,3,4,5,6,7,8,9,10,11,13,14,1012,1015,16,17,18,19,20] [];simp only[go_sem,XX,U];apply KW j fT F;apply ZB j;refine vO j QtG C λd y z=>?_;obtain⟨rfl,Kr,C2,D2⟩:=z;have W:=t.core D2 C2 (RI a.M bf o.changes);have v:JK H.length K B H Kr (Ju B H .no) y:=JK.core t.ap (Qv _) D2;obtain⟨d2,c⟩:=Z.next ⟨_,_,_,_,W⟩ (N.Ap v) (v.YV KY);have I:=c.bc ⟨ce,ca,0⟩;have r:=c.hr;have E:=Qb r;have q:=c.ho;have Ex:=Qb q;have s:=c.B2;have L:=Qb s;apply Jb j;simp only[go_sem,r];apply VI [] j [0] [1,2,3];simp only[go_sem,Qj,E,q,s,L,QI,Qo RW,Qo bj,Qo bk];exact⟨I.done _,I.done _⟩
 have Q:(o.kind==1)=false:=by simpa using J
 by_cases O:o.kind=2
 .have b2:(o.kind==2)=true:=by simpa using O
  have R:=Ql7 H o.rules Kf;by_cases Aa:zK o.rules=0
  .have e:K8 a S.ops o=⟨{ a with R:=o.rules },⟨0,0,0⟩,[]⟩:=by unfold K8;rw[Qd J,Qe O,Qe Aa]
   rw[e];simp only[go_sem,Q,b2,U];refine ZT j pY R λd y z=>?_;obtain⟨g,rfl,a6,_⟩:=z;obtain⟨p2,rfl,hT⟩:=a6 Aa;have W:=t.rules hT;have a4:(H++g)[p]?=some _:=(QG c0).trans XX;have c9:=Qb a4;have v:JK H.length K B H (Q5 K H .no) (Ju B H .IK) (H++g):=JK.app K B H g .IK (Qv _);have E2:=(N.Ap v).loc a4 nofun (by have:=Qb T.o;omega) (by have:=Qb T.o;omega) (jS ps lp p2 pt a.Qc a.ops);obtain⟨d2,c⟩:=Z.next ⟨_,_,_,_,W⟩ E2 ((v.YV KY).QbQ t.tp _);have I:=c.bc ⟨0,0,0⟩;have r:=c.hr;have E:=Qb r;have q:=c.ho;have Ex:=Qb q;have s:=c.B2;have L:=Qb s;have Zk:=Qb T.o;have p4:p≠h.length+4:=ω;have a7:p≠h.length+2:=ω;have b7:p≠h.length+1:=ω;have a9:(H++g)[h.length+4]?=some _:=(QG De).trans W6;have a5:(H++g)[h.length+2]?=some _:=(QG b9).trans bg;have a8:(H++g)[h.length+1]?=some _:=(QG b6).trans be;have c5:=Qb a9;have c4:=Qb a5;have c3:=Qb a8;have Ki:d2=.nil:=by have h5:=c.ho;rw[Qo a7,a5]at h5;simp only[BB,Q7,Ob.mk.injEq,yz]at h5;have:=congrFun h5 0;simp only[Lc,and_true]at this;exact this.symm
   rw[Ki]at I;have x4:h.length+4<H.length+g.length:=by have:=c5;simpa using this
   have x2:h.length+2<H.length+g.length:=by have:=c4;simpa using this
   have x1:h.length+1<H.length+g.length:=by have:=c3;simpa using this
   apply Qh j;simp only[go_sem,a4,Qo p4,a9];apply VI [] j [0] [1,2,3];simp only[go_sem,Qj,x4,x1,Qo a7,Qo b7,a5,a8,QI,Qo RW,Qo bj,Qo bk];exact⟨I.done _,I.done _⟩
  .have e:K8 a S.ops o=⟨a,⟨zK o.rules,0,0⟩,[]⟩:=by unfold K8;rw[Qd J,Qe O,Qd Aa]
   have b5:(zK o.rules==0)=false:=by simpa using Aa
   rw[e];obtain⟨re,c1⟩:=Zc (zK o.rules);rw[<-c1]at R b5 Aa ⊢;simp only[go_sem,Q,b2,U];refine ZT j pY R λd y z=>?_;obtain⟨g,rfl,_,a6⟩:=z;have hd:=a6 Aa;subst hd;have v:JK H.length K B H (Q5 K H .no) (Ju B H .my) (H++g):=JK.app K B H g .my (Qv _);obtain⟨d2,c⟩:=Z.next ⟨_,_,_,_,t.GC g⟩ (N.Ap v) (v.YV KY);have I:=c.bc ⟨re,0,0⟩;have r:=c.hr;have E:=Qb r;have q:=c.ho;have Ex:=Qb q;have s:=c.B2;have L:=Qb s;have x4:h.length+4<H.length+g.length:=by have:=E;simpa using this
   have x2:h.length+2<H.length+g.length:=by have:=Ex;simpa using this
   have x1:h.length+1<H.length+g.length:=by have:=L;simpa using this
   apply Qh j;simp only[go_sem,b5,r];apply VI [] j [0] [1,2,3];simp only[go_sem,Qj,x4,x1,q,s,QI,Qo RW,Qo bj,Qo bk];exact⟨I.done _,I.done _⟩
 have b2:(o.kind==2)=false:=by simpa using O
 by_cases k3:o.kind=3
 .have b3:(o.kind==3)=true:=by simpa using k3
  have e:K8 a S.ops o=Yv a S.ops o.ZG:=by unfold K8;rw[Qd J,Qd O,Qe k3]
  rw[e];obtain⟨Dd,RO,aW,IP⟩:aQ o.ZG:=by obtain⟨_,_,a0,a1,a2,a3,_⟩:=xB;have:=wf_u16 a0;have:=wf_u16 a1;have:=wf_u16 a2;have:=wf_u16 a3;exact⟨⟨ω,ω⟩,⟨ω,ω⟩,⟨ω,ω⟩,⟨ω,ω⟩⟩
  have P:=QEi ⟨_,_,_,_,t⟩ V1 N KY σ (λk=>by rw[yl];have:=hC.ca k;show (S.st.Jq k).length<1000000;omega) o.ZG ⟨Dd,RO,aW,IP⟩;obtain⟨Y,hY⟩:=Zc (Yv a S.ops o.ZG);rw[<-hY]at P ⊢;simp only[go_sem,Q,b2,b3,U];refine ZT j QtH P λd y z=>?_;obtain⟨rfl,Kr,ql,W,E2,v⟩:=z;rw[qv]at E2;obtain⟨d2,c⟩:=Z.next W E2 v;have I:=c.bc Y.r;have r:=c.hr;have E:=Qb r;have q:=c.ho;have Ex:=Qb q;have s:=c.B2;have L:=Qb s;apply Qh j;simp only[go_sem,r];apply VI [] j [0] [1,2,3];simp only[go_sem,Qj,E,q,s,L,QI,Qo RW,Qo bj,Qo bk];exact⟨I.done _,I.done _⟩
 have b3:(o.kind==3)=false:=by simpa using k3
 by_cases k4:o.kind=4
 .have b4:(o.kind==4)=true:=by simpa using k4
  have e:K8 a S.ops o=qi a S.ops o.Vw.toNat:=by unfold K8;rw[Qd J,Qd O,Qd k3,Qe k4]
  rw[e];have hw:=wf_u64 YB;have P:=QEq ⟨_,_,_,_,t⟩ V1 N KY σ o.Vw.toNat ω;obtain⟨Y,hY⟩:=Zc (qi a S.ops o.Vw.toNat);rw[<-hY,show u64 o.Vw.toNat=.raw (.int .u64 o.Vw) by show D.raw (.int .u64 (o.Vw.toNat:Int))=_;rw[ET hw.1]]at P;rw[<-hY];simp only[go_sem,Q,b2,b3,b4,U];refine ZT j QtI P λd y z=>?_;obtain⟨rfl,Kr,ql,W,E2,v⟩:=z;rw[qv]at E2;obtain⟨d2,c⟩:=Z.next W E2 v;have I:=c.bc Y.r;have r:=c.hr;have E:=Qb r;have q:=c.ho;have Ex:=Qb q;have s:=c.B2;have L:=Qb s;apply Qh j;simp only[go_sem,r];apply VI [] j [0] [1,2,3];simp only[go_sem,Qj,E,q,s,L,QI,Qo RW,Qo bj,Qo bk];exact⟨I.done _,I.done _⟩
 have b4:(o.kind==4)=false:=by simpa using k4
 have e:K8 a S.ops o=⟨a,⟨1,0,0⟩,[]⟩:=by unfold K8;rw[Qd J,Qd O,Qd k3,Qd k4]
 rw[e];simp only[go_sem,Q,b2,b3,b4];apply VI [] j [0] [1,2,3];simp only[go_sem,W6,bg,be,b6,QI,Qo RW];exact⟨Z.done _,Z.done _⟩
def QEF(h:List Ob):QO prog 41 h [.nil] (λd a=>∃g p,a=h++g/\d=.tup [.ptr p 0 0 0,Qa 0]/\IM (λj=>h.length<=j) (h++g) p []):=
 (QO.QeB (cs':=[.nil]) (Ql7 h [] π) ⟨rfl,trivial⟩).mono λd a ⟨g,f,e,_⟩=>by obtain⟨p,c,b⟩:=e rfl;exact⟨g,p,f,c,b⟩
def qR.fresh(h:List Ob)(S)(a:∀j,h.length<=j->S j):qR S (h++[QT .i64 0 [],QT .i64 0 [],stO h.length (h.length+1)]) (h.length+2) ⟨λ_=>[],λ_=>default⟩:=
 ⟨h.length,h.length+1,0,[],0,[],VS (k:=2) rfl,Vq rfl,VS (k:=1) rfl,ω,a _ ω,a _ ω,a _ ω,λk=>.inl ⟨rfl,rfl⟩,λk f e g c n i l d b=>(by cases b),λk=>rfl⟩
def QEG{own tw}(ap:∀l,tw l≠.no->own l=.no)(h){c}(K:Wm c):
  QO prog 23 h [.agg c.cells] (λd U=>∃n Z p,d=.tup [.ptr p 0 0 0,Qa 0]/\Yw n Z U p (S0 c)/\JK h.length own tw h n Z U):=by
 have O:(h++[(⟨.one,0,2,1,λ_=>c.cells⟩:Ob)])[h.length]?=some ⟨.one,0,2,1,λ_=>c.cells⟩:=Vq rfl;have M:=QDh (Q5 own h .no) (h++[(⟨.one,0,2,1,λ_=>c.cells⟩:Ob)]) K;have C:=JK.app own tw h [(⟨.one,0,2,1,λ_=>c.cells⟩:Ob)] .no (Qv _);have F:=m6 (h:=h) ap;have Q:Q5 own h .no h.length=.no:=k9 (Qv _);refine Q9 func23 ntmps23 results23 λa0 w pl k=>?_;simp only[go_sem,Qj];obtain⟨f,J⟩:=Zc (h++[(⟨.one,0,2,1,λ_=>c.cells⟩:Ob)]);rw[<-J]at O M C;simp only[go_sem]at J;rw[<-J];clear J;have Nx:=Qb O;generalize Q5 own h .no=JM at M C F Q;generalize Ju tw h .no=V at C F;refine ZT k QtD M λd a o=>?_;obtain⟨Y,L,rfl,C2,P⟩:=o;have B:=C.trans (Qv _) ((JK.core F (Qv _) P).YV C.len);have W:a[h.length]?=some _:=(P.keep _ Nx Q).trans O;have Gq:=Qb W;apply Qh k;simp only[go_sem,W];refine ZT k QtE (QDO a K.t1 K.t2) λd h o=>?_;obtain⟨rfl,rfl⟩:=o;apply Qg k;refine ZT k pY (QEF _) λd e o=>?_;obtain⟨g,E,s,rfl,y⟩:=o;apply Qg k;refine ZT k QtF (QDY e) λd i o=>?_;obtain⟨rfl,q⟩:=o;apply Qg k;have s:e=(a++[jT 0 0 0 c.t 0])++g:=s;have y:IM (λj=>(a++[jT 0 0 0 c.t 0]).length<=j) ((a++[jT 0 0 0 c.t 0])++g) E []:=y;rw[<-s]at y;have R:(a++[jT 0 0 0 c.t 0]).length=a.length+1:=σ;rw[R]at y;have l4:a.length+1<=e.length:=by rw[s,Zn,R];omega
 have l5:i.length=e.length+3:=by rw[q];simp
 have N:∀l,l<a.length->e[l]? = a[l]? := λl b=>by rw[s,WJ,QG b]
 have v:∀l,l<e.length->i[l]? = e[l]? := λl b=>by rw[q,QG b]
 have Fx:e[a.length]?=some (jT 0 0 0 c.t 0):=by rw[s,WJ];exact Vq rfl
 have Zd:qR (λl=>e.length<=l) i (e.length+2) ⟨λ_=>[],λ_=>default⟩:=by rw[q];exact qR.fresh e _ λ_ h=>h
 obtain⟨H,I⟩:=Zc (i++[jS L a.length E (e.length+2) 0 0]);have r:∀l,l<i.length->H[l]? = i[l]? := λl b=>by rw[I,QG b]
 have hp:H[i.length]?=some (jS L a.length E (e.length+2) 0 0):=by rw[I];exact Vq rfl
 obtain⟨m,z⟩:∃t:Nat->TT,t=λl=>if l<a.length then Ju V f .no l else if l=a.length then .ln else if l<e.length then .IK else if l<i.length then .st else if l=i.length then .sys else .no:=⟨_,rfl⟩;have t0:∀l,l<a.length->m l=Ju V f .no l:=λl b=>by rw[z];dsimp only;rw[Qe b]
 have t1:m a.length=.ln:=by rw[z];dsimp only;rw[Qd ω,Qe rfl]
 have t2:∀l,a.length+1<=l->l<e.length->m l=.IK:=λl f a=>by rw[z];dsimp only;rw[Qd ω,Qd ω,Qe a]
 have t3:∀l,e.length<=l->l<i.length->m l=.st:=λl f a=>by rw[z];dsimp only;rw[Qd ω,Qd ω,Qd ω,Qe a]
 have t4:m i.length=.sys:=by rw[z];dsimp only;rw[Qd ω,Qd ω,Qd ω,Qd ω,Qe rfl]
 have X:WZ (Q5 Y a .no) m H i.length L a.length E (e.length+2) (S0 c):=by refine⟨hp,t4,C2.step λl b _=>⟨KB b,by rw[r l ω,v l ω,N l b]⟩,⟨0,0,0,?_⟩,t1,y.step λj u f=>⟨t2 j f u,by rw[r j ω,v j u]⟩,Zd.step λj u f=>⟨t3 j f u,r j u⟩,λl b=>?_⟩;rw[r _ ω,v _ ω];exact Fx;by_cases T:l<a.length;rw[t0 l T]at b;rw[KB T];by_cases S:l<f.length;rw[VW S]at b;rw[P.same l S];exact F l b;rw[GA ω]at b;exact absurd rfl b;exact k9 ω
 have KH:JK h.length own tw h (Q5 Y a .no) m H:=by have a1:=B.len;exact⟨λl b=>by rw[KB ω];exact B.s1 l b,λl b=>by rw[t0 l ω];exact B.s2 l b,λl b f a=>by rw[r l ω,v l ω,N l ω];exact B.keep l b f a,λl b f=>by rw[r l ω,v l ω,N l ω];exact B.my l b f,by rw[I];simp;omega⟩
 subst I;exact⟨_,m,_,rfl,⟨_,_,_,_,X⟩,KH⟩
end Go.Fg.X
namespace Go.Fg.X
open Go.Proofs Go.Fg
open Go.RowKit (Below)
open Go.Proofs.Tryz
def QbV{P f C R}(J:D)(W:J.upto 0=true)
  (hd:∀d u,R d u->JQ 6 d J\/(∃a g t n k,u[a]?=some ⟨.arr,g,t,n,k⟩/\(∀i,i<n->(k i).all D.Yl=true)/\JQ 6 (D.fz a g n t k d) J) \/
   ∃a g t n k F T U K E,u[a]?=some ⟨.arr,g,t,n,k⟩/\u[F]?=some ⟨.arr,T,U,K,E⟩/\F≠a/\(∀i,i<n->(k i).all D.Yl=true)/\(∀i,i<K->(E i).all D.Yl=true)/\JQ 6 (D.fz F T K U E (D.fz a g n t k d)) J) (h:QM P f C R):QM P f C (QR J):=by
 intro Z S w pl vs h1 h2 h3 hl hc;have N:pl=[]:=by have:=h3.len;simpa using this
 subst N;refine(h Z S w [] vs h1 h2 h3 hl hc).mono λe w' he=>?_;obtain⟨v,d,u,B,rfl,hR,y,hV,hT,hB⟩:=he;suffices a0:QF Z [] [] w' J v by exact⟨v,_,[],[],rfl,⟨rfl,rfl⟩,Zo.nil,a0,⟨λb L Qb=>⟨L,(hT.Kz b L Qb).2⟩,λl o p e=>by simp at e,λl o I b q e=>by simp at e⟩,hB⟩
 rcases hd _ _ hR with s|⟨a,g,t,n,k,x,Zw,s⟩|⟨a,g,t,n,k,F,T,U,K,E,x,H,a1,Zw,Q,s⟩;exact(vL 6 s hV).take W;have Qb:a<B.length:=by rw[y.len];exact(Xh.1 x).1
 obtain⟨p,m⟩:∃p,B[a]?=some p:=⟨_,QH Qb⟩;have CA:=hV.fz (l:=a) (o:=⟨.arr,g,t,n,k⟩) (p:=p) x m rfl (λb q e=>by
  subst e;refine⟨h2 b ?_,λr q' z=>?_,(y.at_ a _ b q x m).2.cells rfl⟩;rcases xI b w.heap.size with Qb|Xz;exact absurd m ((hT.Kz b (λi q e=>by simp at e) Qb).1 a q);exact Xz;exact y.inj _ _ _ _ _ z m) Zw (h':=u.set a (Ob.gone ⟨.arr,g,t,n,k⟩)) (λr I O e=>by
  exact⟨I,by rw[JT (Zb O)];exact e,rfl,rfl,rfl⟩)
 exact(vL 6 s CA).take W;have pos:∀{a:Nat} {o:Ob},u[a]?=some o->∃p,B[a]?=some p:=λ{a o} x=>by
  have Qb:a<B.length:=by rw[y.len];exact(Xh.1 x).1
  exact⟨_,QH Qb⟩
 have zb:∀{a b q:Nat},B[a]?=some (some (b,q))->Z b:=λ{a b q} m=>h2 b (by rcases xI b w.heap.size with Qb|Xz;exact absurd m ((hT.Kz b (λi q e=>by simp at e) Qb).1 a q);exact Xz)
 obtain⟨p,m⟩:=pos x;obtain⟨p',V⟩:=pos H;have r1:=hV.fz (l:=a) (o:=⟨.arr,g,t,n,k⟩) (p:=p) x m rfl (λb q e=>by subst e;exact⟨zb m,λr q' z=>y.inj _ _ _ _ _ z m,(y.at_ a _ b q x m).2.cells rfl⟩) Zw (h':=u) (λr I O e=>⟨I,e,rfl,rfl,rfl⟩)
 have N:∀(r:Nat),r≠a->(B.set a none)[r]? = B[r]? := λr YR=>by rw[JT (Zb YR)]
 have O:F≠a:=a1;have r2:=r1.fz (l:=F) (o:=⟨.arr,T,U,K,E⟩) (p:=p') H ((N _ O).trans V) rfl (λb q e=>by
  subst e;refine⟨zb V,λr q' z=>?_,?_⟩;by_cases M:r=a;subst M;rw[Xi (WA m)]at z;cases z;rw[N _ M]at z;exact y.inj _ _ _ _ _ z V;obtain⟨c,el,c1,c2,c3,c4⟩:=(y.at_ F _ b q H V).2.cells rfl;refine⟨c,el,c1,c2,c3,λi j Y hj=>?_⟩;obtain⟨v,hv,hr⟩:=c4 i j Y hj;have h5:=Q i Y;rw[jt]at h5;have h6:j<(E i).length:=by rw[c3 i Y];exact hj
  have h7:(nth (E i) j).Yl=true:=h5 _ (by simp only[nth,QU,QH h6,Va];exact XK h6)
  exact⟨v,hv,.cl _ _ ((Ht hr h7).mono (N':=free Z (B.set a none)) (w':=w') λb L _=>⟨⟨L.1,λl q e=>by by_cases M:l=a;subst M;rw[Xi (WA m)]at e;cases e;rw[N _ M]at e;exact L.2 l q e⟩,rfl⟩)⟩) Q (h':=u) (λr I O e=>⟨I,e,rfl,rfl,rfl⟩)
 exact(vL 6 s r2).take W
end Go.Fg.X
namespace Go.Fg.X
open Go.Proofs Go.Fg
open Go.Proofs.Tryz
def Qmq(u a b):∀c:List (Nat × D),put (put c u a) u b=put c u b
 | []=>by simp[put]
 | (t,e)::r=>by
  cases h:Nat.beq t u with
  | true=>simp[put,h]
  | false=>simp[put,h,Qmq u a b r]
def QEI{k:Type}[Inhabited k]{w0:Start}(m:w0.F=[])(B:w0.pl=[]){S:Nat->Prop}{j:Nat}{f:k->List D}(C:∀a,(f a).all D.Yl=true){fr:List (Nat × D)}{h:List Ob}{d:D}{L:List k}(t:Nat)(s:get fr t=d)(E:Ye S h j f d L):
  ∃b p,Qs w0 ⟨fr,h⟩ ⟨put fr t (.imm j L.length b),p⟩/\(∀i,i<L.length->b i=f (L.getD i default))/\h.length<=p.length/\∀l,l<h.length->¬S l->p[l]? = h[l]? := by
 have r:w0.pl.length=w0.F.length:=by rw[m,B];rfl
 have v:∀h:List Ob,QgU w0.F h:=λh l o e=>by rw[m]at e;simp at e
 have hz:∀n,w0.F.length<=n:=λn=>by rw[m];exact Z7 _
 rcases E with ⟨rfl,rfl⟩|⟨z,g,b,rfl,q,F,y⟩;refine⟨rowFrom 0 (λ_=>[]),h++[(⟨.arr,0,j,0,λ_=>[]⟩:Ob).gone],?_,λi c=>absurd c (Yy i),σ,λl u x=>QG u⟩;have H:=Qs.QDi (w0:=w0) (h:=h) t j s;have w:=Qs.TF r (v _) t h.length (hz _) (fr:=put fr t (.ref h.length 0 0 0)) (h:=h++[(⟨.arr,0,j,0,λ_=>[]⟩:Ob)]) (o:=⟨.arr,0,j,0,λ_=>[]⟩) (off:=0) (len:=0) (by rw[E9,Qe rfl]) (Vq rfl) (Qv 0) rfl (λi c=>absurd c (Yy i));rw[Qmq,fA rfl]at w;exact Qs.trans H w;refine⟨rowFrom 0 b,_,Qs.TF r (v _) t z (hz _) s F (by show 0+L.length<=L.length;omega) rfl (λi c=>?_),λi c=>?_,σ,λl u x=>?_⟩;show (b i).all D.Yl=true;rw[y i c];exact C _;rw[HC,JG,y i c];exact Qo λe=>x (by rw[<-e];exact q)
def Yw.far{a b}{h f:List Ob}{p S}(T:Yw a b h p S)(m:h.length<=f.length)(e:∀l,l<h.length->¬(a l=.no/\b l=.no)->f[l]? = h[l]?):Yw (Q5 a h .no) (Ju b h .no) f p S:=by obtain⟨i,k,j,g,T⟩:=T;exact⟨_,_,_,_,T.step (λl Qb=>⟨λc=>⟨KB Qb,e l Qb λd=>c.1 d.1⟩,λc _=>⟨VW Qb,e l Qb λd=>c d.2⟩⟩) (m6 T.ap)⟩
structure Zt.Small (o:Zt):Prop where
 c:o.changes.length<1000000
 r:o.rules.length<1000000
def Qmr(S:Zy)(f d:Nat)(k:Int):((Z2 S f d).1.st.Jq k).length<=(S.st.Jq k).length:=by
 have g:∀(s:EJ) (c:Int) (done:Nat) (bytes:Int) (b:Bool),((qQ s c done bytes b).Jq k).length<=(s.Jq k).length:=λs c done bytes b=>by
  unfold qQ;cases h:s.Jq c with
  | nil=>exact Qv _
  | cons a l=>dsimp only;split;exact Qv _;split;exact Qv _;dsimp only;split;rename_i e;rw[e,h];simp;exact Qv _
 unfold Z2;split;exact Qv _;split;exact g _ _ _ _ _;exact Qv _
def Qms(a e)(k:Int):∀(n:Nat) (S:Zy),((K7 a e n S).1.st.Jq k).length<=(S.st.Jq k).length
 | 0,S=>Qv _
 | n+1,S=>by unfold K7;split;exact Qv _;exact J5 (Qms a e k n _) (Qmr { S with Qc:=Zf S } a (Zf S) k)
def aZ.do{S}(C:aZ S)(o:Zt):aZ (J3 S o).S:=by refine⟨λk=>?_⟩;rw[Qbv];have a:=C.ca k;show ((K8 { S with ops:=S.ops+1 } S.ops o).S.st.Jq k).length<=S.ops+1;unfold K8;split;show (S.st.Jq k).length<=_;omega;split;split<;>(show (S.st.Jq k).length<=_;omega);split;unfold Yv;split;show (S.st.Jq k).length<=_;omega;split;refine J5 (Qmr _ _ _ k) ?_;show (if k=_ then S.st.Jq k++[S.Qc] else S.st.Jq k).length<=_;split;rw[Zn];show _+1<=_;omega;omega;show (S.st.Jq k).length<=_;omega;split;unfold qi;split;show (S.st.Jq k).length<=_;omega;exact J5 (Qms _ _ k _ _) (by show (S.st.Jq k).length<=_;omega);show (S.st.Jq k).length<=_;omega
def Yw.QEL{a c}{h g:List Ob}{p S}(T:Yw a c h p S)(e:∀l,l<h.length->¬(a l=.no/\(c l=.no\/c l=.my))->g[l]? = h[l]?):Yw (Q5 a h .no) (Ju c h .my) g p S:=by obtain⟨k,n,m,j,T⟩:=T;refine⟨_,_,_,_,T.step (λl Qb=>⟨λd=>⟨KB Qb,e l Qb λb=>d.1 b.1⟩,λd i=>⟨VW Qb,e l Qb λb=>b.2.elim d i⟩⟩) λl f=>?_⟩;by_cases b:l<h.length;rw[VW b]at f;rw[KB b];exact T.ap l f;exact k9 ω
def qh.rows(l:List qh):Nat->List D:=λi=>(l.getD i default).cells
@[go_sem] theorem qh.vN(l:List qh)(i):qh.rows l i=(l.getD i default).cells:=rfl
@[go_sem] def NS(l:List qh):D:=.imm 3 l.length (qh.rows l)
structure bn (x:XB) (p q k:Nat) (own:Nat->Tag) (tw:Nat->TT) (H:List Ob) (S:Zy) (R:List qh) (E:List Ev) (dR dE:D):Prop where
 T:Yw own tw H p S
 V:ZQ S
 C:aZ S
 ops:S.ops=k
 hx:H[0]?=some ⟨.one,0,3,1,λ_=>x.cells⟩
 hr:H[1]?=some ⟨.one,0,2,1,λ_=>[.nil,.nil]⟩
 hq:H[q]?=some ⟨.one,0,2,1,λ_=>[dR,dE]⟩
 q2:2<=q
 my:∀l,l=0\/l=1\/l=q->own l=.no/\tw l=.my
 sR:Ye (λl=>own l=.no/\tw l=.my) H 3 qh.cells dR R
 sE:Ye (λl=>own l=.no/\tw l=.my) H 12 Ev.cells dE E
 run:Za (S0 x.config) (x.ops.take k)=(S,R,E)
 lR:R.length=k
 lE:E.length<=5000*k
def Qmt(S:Zy)(o:Zt)(h:Wf S.M<=4096):(J3 S o).l.length<=5000:=by
 have d:∀(a e n:Nat) (S:Zy),(K7 a e n S).2.length<=n:=by
  intro a e n;induction n with
  | zero=>exact λS=>Qv _
  | succ n c=>intro S;unfold K7;split;exact Z7 _;have f:=c (Z2 { S with Qc:=Zf S } a (Zf S)).1;have b:=aY { S with Qc:=Zf S } a (Zf S);dsimp only;rw[Zn];omega
 show (K8 { S with ops:=S.ops+1 } S.ops o).l.length<=5000;unfold K8;split;exact Z7 _;split;split<;>exact Z7 _;split;unfold Yv;split;exact Z7 _;split;have b:=aY { { S with ops:=S.ops+1 } with M:=Zx S.M S.Qc (Kc S.R (Z1 o.ZG)) o.ZG,st:=wu S.st (Kc S.R (Z1 o.ZG)) S.Qc } S.ops S.Qc;show (_::_:List Ev).length<=5000;rw[Kx];exact J5 (Nat.succ_le_succ b) π;exact Z7 _;split;unfold qi;split;exact Z7 _;have:=d S.ops (S.Qc+o.Vw.toNat) (Wf S.M+1) { S with ops:=S.ops+1 };exact J5 this ω;exact Z7 _
def ZQ.start{b d h p c}(T:Yw b d h p (S0 c)):ZQ (S0 c):=by obtain⟨_,_,_,_,T⟩:=T;exact⟨T.co.I,T.co.V,T.co.K,λj x hx=>(by cases hx),Qv _,Z7 _,Z7 _,λk=>⟨Dp _,Dp _,Dp _,Dp _,Dp _⟩,λk a e=>(by cases e)⟩
def nu{a:Type}[Inhabited a]{f:a->List D}{L M:List a}{c r2:Nat->List D}(g:∀i,i<L.length->c i=f (L.getD i default))(e:∀i,i<M.length->r2 i=f (M.getD i default)):∀i,i<(L++M).length->J8 L.length 0 c r2 i=f ((L++M).getD i default):=by intro i d;rw[Zn]at d;rw[QU];by_cases b:i<L.length;rw[BS b,JG,g i b,JX b,QU];rw[yC ω,e _ ω,Ks ω,QU]
def bn.next{x:XB}{p q k g t H S R E L M}(I:bn x p q k g t H S R E L M)(v:k<x.ops.length)(z:∀c∈(x.ops.getD k default).changes,Jj.Ok c){own4 tw4}{h4 h':List Ob}{Y:NM}(f:Y=J3 S (x.ops.getD k default))(T:Yw own4 tw4 h4 p Y.S)(h:h4.length<=h'.length)(e:∀l,l<h4.length->¬(own4 l=.no/\(tw4 l=.no\/tw4 l=.my))->h'[l]? = h4[l]?)
  (i:∀l o,l<H.length->g l=.no->t l=.my->H[l]?=some o->own4 l=.no/\tw4 l=.my/\h4[l]?=some o) {a b:D}
  (K:h'[0]? = h4[0]?) (J:h'[1]? = h4[1]?) (F:h'[q]?=some ⟨.one,0,2,1,λ_=>[a,b]⟩)
  (w:Ye (λl=>h4.length<=l\/own4 l=.no/\tw4 l=.my) h' 3 qh.cells a (R++[Y.r])) (y:Ye (λl=>h4.length<=l\/own4 l=.no/\tw4 l=.my) h' 12 Ev.cells b (E++Y.l)) :
  bn x p q (k+1) (Q5 own4 h4 .no) (Ju tw4 h4 .my) h' Y.S (R++[Y.r]) (E++Y.l) a b:=by
 have d:∀l,(h4.length<=l\/own4 l=.no/\tw4 l=.my)->Q5 own4 h4 .no l=.no/\Ju tw4 h4 .my l=.my:=λl h=>by by_cases s:l<h4.length;rw[KB s,VW s];exact h.resolve_left ω;exact⟨k9 ω,GA ω⟩
 have n:=i 0 _ (Qb I.hx) (I.my 0 (.inl rfl)).1 (I.my 0 (.inl rfl)).2 I.hx;have m:=i 1 _ (Qb I.hr) (I.my 1 (.inr (.inl rfl))).1 (I.my 1 (.inr (.inl rfl))).2 I.hr;have u:=i q _ (Qb I.hq) (I.my q (.inr (.inr rfl))).1 (I.my q (.inr (.inr rfl))).2 I.hq;have B:x.ops.take (k+1)=x.ops.take k++[x.ops.getD k default]:=by rw[zQ,QH v,QU,QH v];rfl
 refine⟨T.QEL e,?_,?_,?_,K.trans n.2.2,J.trans m.2.2,F,I.q2,λl h=>?_,w.step λj _ r=>⟨d j r,rfl⟩,y.step λj _ r=>⟨d j r,rfl⟩,?_,?_,?_⟩;rw[f];exact I.V.do z;rw[f];exact I.C.do _;rw[f,Qbv,I.ops];rcases h with rfl|rfl|rfl;exact d _ (.inr ⟨n.1,n.2.1⟩);exact d _ (.inr ⟨m.1,m.2.1⟩);exact d _ (.inr ⟨u.1,u.2.1⟩);rw[B,Qbt,I.run,f];simp only[Za,JN];rw[Zn,I.lR];rfl;obtain⟨_,_,_,_,N⟩:=I.T;have s:=Qmt S (x.ops.getD k default) N.co.aX;have O:=I.lE;rw[Zn,f];omega
def Qmu{b:List qh}{a}(h:∀i,i<b.length->a i=qh.cells (b.getD i default)){k}:JQ (k+1) (.imm 3 b.length (rowFrom 0 a)) (NS b):=⟨rfl,rfl,λi c=>by rw[HC,JG,h i c];exact vK (zw _) _⟩
def Qmv{b:List Ev}{a}(h:∀i,i<b.length->a i=Ev.cells (b.getD i default)){k}:JQ (k+1) (.imm 12 b.length (rowFrom 0 a)) (YD b):=⟨rfl,rfl,λi c=>by rw[HC,JG,h i c];exact vK (zw _) _⟩
def run_freeze{S u I J f j}(N:Ye S u 3 qh.cells I f)(F:Ye S u 12 Ev.cells J j){d}(e:d=.tup [.agg [I,J],Qa 0]):
  JQ 6 d (.tup [.agg [NS f,YD j],Qa 0])\/(∃q g t n c,u[q]?=some ⟨.arr,g,t,n,c⟩/\(∀i,i<n->(c i).all D.Yl=true)/\JQ 6 (D.fz q g n t c d) (.tup [.agg [NS f,YD j],Qa 0])) \/
   ∃q g t n c E H L z B,u[q]?=some ⟨.arr,g,t,n,c⟩/\u[E]?=some ⟨.arr,H,L,z,B⟩/\E≠q/\(∀i,i<n->(c i).all D.Yl=true)/\(∀i,i<z->(B i).all D.Yl=true)/\JQ 6 (D.fz E H z L B (D.fz q g n t c d)) (.tup [.agg [NS f,YD j],Qa 0]):=by
 subst e;have M:∀{a b:Nat},a≠b->Nat.beq a b=false:=λ{a b} h=>by rw[<-Yx,Wz];exact h
 rcases N with ⟨rfl,rfl⟩|⟨l,r,s,rfl,_,C,y⟩;rcases F with ⟨rfl,rfl⟩|⟨k,o,p,rfl,_,x,w⟩;exact .inl ⟨⟨rfl,rfl,trivial⟩,rfl,trivial⟩;refine .inr (.inl ⟨k,o,12,_,p,x,λi m=>by rw[w i m];rfl,?_⟩);have v:D.fz k o j.length 12 p (.tup [.agg [.nil,.ref k o 0 j.length],Qa 0])=.tup [.agg [.nil,.imm 12 j.length (rowFrom 0 p)],Qa 0]:=by simp[D.fz,zZ,Fz,Qa]
 rw[v];exact⟨⟨rfl,Qmv w,trivial⟩,rfl,trivial⟩;rcases F with ⟨rfl,rfl⟩|⟨k,o,p,rfl,_,x,w⟩;refine .inr (.inl ⟨l,r,3,_,s,C,λi m=>by rw[y i m];rfl,?_⟩);have v:D.fz l r f.length 3 s (.tup [.agg [.ref l r 0 f.length,.nil],Qa 0])=.tup [.agg [.imm 3 f.length (rowFrom 0 s),.nil],Qa 0]:=by simp[D.fz,zZ,Fz,Qa]
 rw[v];exact⟨⟨Qmu y,rfl,trivial⟩,rfl,trivial⟩;have K:k≠l:=XW x C (.inr nofun);refine .inr (.inr ⟨l,r,3,_,s,k,o,12,_,p,C,x,K,λi m=>by rw[y i m];rfl,λi m=>by rw[w i m];rfl,?_⟩);have v:D.fz k o j.length 12 p (D.fz l r f.length 3 s (.tup [.agg [.ref l r 0 f.length,.ref k o 0 j.length],Qa 0]))=.tup [.agg [.imm 3 f.length (rowFrom 0 s),.imm 12 j.length (rowFrom 0 p)],Qa 0]:=by simp[D.fz,zZ,Fz,M K,Qa]
 rw[v];exact⟨⟨Qmu y,Qmv w,trivial⟩,rfl,trivial⟩
def Qmw(x:XB)(K:Wm x.config)(c:x.ops.length<=1000)(ZS:∀o∈x.ops,Zt.Ok o/\Zt.Small o):
  QM prog 9 [.agg x.cells] (QR (.tup [.agg [NS (Za (S0 x.config) x.ops).2.1,YD (Za (S0 x.config) x.ops).2.2],Qa 0])):=by
 have dl:decide ((1000:Int)<(x.ops.length:Int))=false:=QN ω;refine QbV (R:=λd hh=>∃(S:Nat->Prop) (dR dE:D),d=.tup [.agg [dR,dE],Qa 0]/\Ye S hh 3 qh.cells dR (Za (S0 x.config) x.ops).2.1/\Ye S hh 12 Ev.cells dE (Za (S0 x.config) x.ops).2.2) _ rfl (λd hh ⟨S,dR,dE,e,z,t⟩=>run_freeze z t e) ?_;refine pH Vr 200 func9 rfl ntmps9 results9 rfl λc8 w L=>?_;simp only[go_sem];have hN:=QEG (own:=λ_=>.no) (tw:=λ_=>.my) (λ_ _=>rfl) [(⟨.one,0,3,1,λ_=>x.cells⟩:Ob),⟨.one,0,2,1,λ_=>[.nil,.nil]⟩] K;refine ZT L Qtv hN λd z hR=>?_;obtain⟨JM,Wx,p,rfl,T1,N⟩:=hR;have YS:z[0]?=some _:=N.my 0 σ rfl;have W6:z[1]?=some _:=N.my 1 σ rfl;have GF:=Qb YS;apply Qh L;simp only[go_sem,Qj,YS,GF,dl];have De:=Qb W6;have c7:=T1;obtain⟨_,_,_,_,b6⟩:=c7;have I0:bn x p z.length 0 (Q5 JM z .no) (Ju Wx z .my) (z++[(⟨.one,0,2,1,λ_=>[.nil,.nil]⟩:Ob)]) (S0 x.config) [] [] .nil .nil:=by refine⟨⟨_,_,_,_,b6.GC _⟩,ZQ.start T1,⟨λk=>Z7 _⟩,rfl,(QG GF).trans YS,(QG De).trans W6,Vq rfl,by have:=N.len;simpa using this,λl YR=>?_,.inl ⟨rfl,rfl⟩,.inl ⟨rfl,rfl⟩,rfl,rfl,Z7 _⟩;rcases YR with rfl|rfl|rfl;exact⟨(KB GF).trans (N.s1 0 σ),(VW GF).trans (N.s2 0 σ)⟩;exact⟨(KB De).trans (N.s1 1 σ),(VW De).trans (N.s2 1 σ)⟩;exact⟨k9 (Qv _),GA (Qv _)⟩
 obtain⟨q,hq⟩:=Zc z.length;rw[<-hq]at I0 ⊢;refine ZY (λk s=>∃O tw H S R E dR dE,bn x p q k O tw H S R E dR dE/\s=⟨[(2,.ptr 1 0 0 0),(3,Qa 0),(4,.ptr p 0 0 0),(5,Qa 0),(6,.ptr q 0 0 0),(29,.imm 10 x.ops.length (Zt.rows x.ops)),(30,Qa x.ops.length),(31,Qa k)],H⟩) x.ops.length QP ⟨_,_,_,_,_,_,_,_,I0,rfl⟩ ?_;clear I0 T1 b6 N YS W6 GF De hN hq;rintro k _ hk ⟨O,tw,H,S,R,E,dR,dE,I,rfl⟩;by_cases T:k<x.ops.length
 .have dk:=QY T;have QS:=JJ (show k<4611686018427387904 from ω);obtain⟨o,ho⟩:=Zc (x.ops.getD k default);have nv:o∈x.ops:=by rw[ho];exact YZ x.ops default k T
  obtain⟨⟨_,_,_,_,Tx⟩,hV,hC,e0⟩:=And.intro I.T (And.intro I.V (And.intro I.C I.ops));have T1:=Tx.GC [⟨.one,0,10,1,λ_=>o.cells⟩];have N:=JK.app (n:=H.length) O tw H [⟨.one,0,10,1,λ_=>o.cells⟩] .my (Qv _);have c4:=QEv ⟨_,_,_,_,T1⟩ hV hC ω o (ZS o nv).1 (ZS o nv).2.c (ZS o nv).2.r;apply Qh L;simp only[go_sem,Qj,T,<-ho];refine ZT L Qtw c4 λd t hR=>?_;obtain⟨dl,Kr,ql,rfl,T2,s2,K2⟩:=hR;refine FA Vr L 10 ?_;simp only[go_sem,Qj];obtain⟨Y,hY⟩:=Zc (J3 S o);rw[<-hY]at T2 s2 ⊢;obtain⟨_,_,_,_,c5⟩:=T2;have Hm:H.length+1<=t.length:=by have:=K2.len;simpa using this
  have T3:=c5.GC [⟨.one,0,3,1,λ_=>Y.r.cells⟩];have s3:Ye (λl=>l<t.length/\Kr l=.no/\ql l=.no) (t++[(⟨.one,0,3,1,λ_=>Y.r.cells⟩:Ob)]) 12 Ev.cells dl Y.l:=s2.step λj hj z=>⟨⟨hj,z.2⟩,QG hj⟩;have c1:∀l o',l<H.length->O l=.no->tw l=.my->H[l]?=some o'->Kr l=.no/\ql l=.my/\t[l]?=some o':=λl o' c z t h3=>by have JC:l<(H++[(⟨.one,0,10,1,λ_=>o.cells⟩:Ob)]).length:=ξ;have a1:=(N.s1 l c).trans z;have a2:=(N.s2 l c).trans t;exact⟨(K2.s1 l JC).trans a1,(K2.s2 l JC).trans a2,(K2.my l JC a2).trans ((QG c).trans h3)⟩
  obtain⟨m,r,W4,Z3,Uo,k4⟩:=QEI (w0:=⟨w,[],[]⟩) rfl rfl (λa=>rfl) (fr:=[(2,.ptr 1 0 0 0),(3,Qa 0),(4,.ptr p 0 0 0),(5,Qa 0),(6,.ptr q 0 0 0),(9,.ptr t.length 0 0 0),(10,dl),(29,.imm 10 x.ops.length (Zt.rows x.ops)),(30,Qa x.ops.length),(31,Qa k),(41,.ptr q 0 0 0)]) (h:=t++[(⟨.one,0,3,1,λ_=>Y.r.cells⟩:Ob)]) 10 rfl s3;have Uo:t.length+1<=r.length:=by simpa using Uo
  have br:r[t.length]?=some ⟨.one,0,3,1,λ_=>Y.r.cells⟩:=by rw[k4 _ σ (λh=>absurd h.1 (BK _))];exact Vq rfl
  obtain⟨b,b8⟩:=Zc (Q5 (Q5 Kr t .no) (t++[(⟨.one,0,3,1,λ_=>Y.r.cells⟩:Ob)]) .no);obtain⟨v,b7⟩:=Zc (Ju (Ju ql t .my) (t++[(⟨.one,0,3,1,λ_=>Y.r.cells⟩:Ob)]) .no);have T4:Yw b v r p Y.S:=by rw[b8,b7];refine Yw.far ⟨_,_,_,_,T3⟩ (zC Uo) λl c y=>k4 l c λhh=>y ?_;exact⟨(KB hh.1).trans hh.2.1,(VW hh.1).trans hh.2.2⟩
  have W:∀l o',l<H.length->O l=.no->tw l=.my->H[l]?=some o'->b l=.no/\v l=.my/\r[l]?=some o':=λl o' c z qy h3=>by obtain⟨V,Q,M⟩:=c1 l o' c z qy h3;have JY:l<t.length:=ω;have F1:l<(t++[(⟨.one,0,3,1,λ_=>Y.r.cells⟩:Ob)]).length:=ξ;refine⟨by rw[b8,KB F1,KB JY];exact V,by rw[b7,VW F1,VW JY];exact Q,?_⟩;rw[k4 l F1 λh=>(by rw[Q]at h;cases h.2.2),QG JY];exact M
  refine DM (Qs.trans (Qs.frame (fr':=[(2,.ptr 1 0 0 0),(3,Qa 0),(4,.ptr p 0 0 0),(5,Qa 0),(6,.ptr q 0 0 0),(9,.ptr t.length 0 0 0),(10,dl),(29,.imm 10 x.ops.length (Zt.rows x.ops)),(30,Qa x.ops.length),(31,Qa k),(41,.ptr q 0 0 0)]) (by simp only[go_sem])) W4) ?_;have kH:=Qb I.hx;have YN:=Qb I.hr;have b9:=Qb I.hq;obtain⟨qo,qt,IS⟩:=W q _ b9 (I.my q (.inr (.inr rfl))).1 (I.my q (.inr (.inr rfl))).2 I.hq;have J:=Qb IS;have c9:=Qb br;have c0:Ye (λl=>b l=.no/\v l=.my) r 3 qh.cells dR R:=I.sR.imp id λ⟨U,g,m,a1,a2,a3,a4⟩=>by obtain⟨V,Q,M⟩:=W U _ (Qb a3) a2.1 a2.2 a3;exact⟨U,g,m,a1,⟨V,Q⟩,M,a4⟩
  have a8:Ye (λl=>b l=.no/\v l=.my) r 12 Ev.cells dE E:=I.sE.imp id λ⟨U,g,m,a1,a2,a3,a4⟩=>by obtain⟨V,Q,M⟩:=W U _ (Qb a3) a2.1 a2.2 a3;exact⟨U,g,m,a1,⟨V,Q⟩,M,a4⟩
  have ar:=I.lR;have af:=I.lE;have q4:=I.q2;obtain⟨_,_,_,_,Tc⟩:=I.T;have c3:=Qmt S o Tc.co.aX;rw[<-hY]at c3;have Bt:=λh'=>I.next (h':=h') T (ho▸(ZS o nv).1.2.1.2) (by rw[<-ho];exact hY) (own4:=b) (tw4:=v) (h4:=r) T4;have Zw:∀i,i<Y.l.length->(m i).all D.VF=true:=λi u=>by rw[Z3 i u];rfl
  have P:∀{l},¬(b l=.no/\(v l=.no\/v l=.my))->∀{l'},b l'=.no/\v l'=.my->l'≠l:=λh l' h' e=>h (e▸⟨h'.1,.inr h'.2⟩);have n0:q≠0:=ω;have n1:q≠1:=ω;have z0:0<r.length:=ω;have z1:1<r.length:=ω;have a5:=(W 0 _ kH (I.my 0 (.inl rfl)).1 (I.my 0 (.inl rfl)).2 I.hx).2.2;have a0:=(W 1 _ YN (I.my 1 (.inr (.inl rfl))).1 (I.my 1 (.inr (.inl rfl))).2 I.hr).2.2;rcases c0 with ⟨rfl,rfl⟩|⟨yu,gR,NT,rfl,ny,Dg,Dh⟩;rcases a8 with ⟨rfl,rfl⟩|⟨Z,gE,GH,rfl,bu,F,GI⟩;apply Qh L;simp only[go_sem,Qj,IS,J,br,QI];refine⟨⟨ω,Zw⟩,T,_,Qs.frame (by simp only[go_sem,QS]),_,_,_,_,_,_,_,_,Bt _ σ (λl c y=>(QG (by rw[Ky];exact c)).trans (Qo (P y ⟨qo,qt⟩))) W ((QG (by rw[Ky];exact z0)).trans (Qo n0)) ((QG (by rw[Ky];exact z1)).trans (Qo n1)) ((QG (by rw[Ky];exact J)).trans (QI J)) (.inr ⟨r.length+1,0,_,rfl,.inl (Lm _),VS (by rw[Ky]),λi u=>?_⟩) (.inr ⟨r.length+2,0,_,rfl,.inl ω,VS (by rw[Ky]),λi u=>Z3 i u⟩),rfl⟩;obtain rfl:i=0:=by simpa using u
  rfl;have NU:=Qb F;have NV:Z≠q:=XW F IS (.inl nofun);apply Qh L;simp only[go_sem,Qj,IS,J,br,F,NU,QI,Qo NV,Qo NV.symm];have bw:∀(A B C:Ob) {l},l<r.length->l<(((r.set q A).set Z B).set q C).length:=λA B C l c=>by simp only[Ky];exact c
  have a7:=XW F a5 (.inl nofun);have a6:=XW F a0 (.inl nofun);refine⟨⟨ω,Zw⟩,T,_,Qs.frame (by simp only[go_sem,QS]),_,_,_,_,_,_,_,_,Bt _ σ (λl c y=>by rw[QG (bw _ _ _ c),Qo (P y ⟨qo,qt⟩),Qo (P y bu),Qo (P y ⟨qo,qt⟩)]) W (by rw[QG (bw _ _ _ z0),Qo n0,Qo a7,Qo n0]) (by rw[QG (bw _ _ _ z1),Qo n1,Qo a6,Qo n1]) ((QG (bw _ _ _ J)).trans (QI (by simp only[Ky];exact J))) (.inr ⟨r.length+1,0,_,rfl,.inl (Lm _),VS (by simp only[Ky]),λi u=>?_⟩) (.inr ⟨Z,gE+1,_,?_,.inr bu,?_,nu (r2:=m) GI λi u=>Z3 i u⟩),rfl⟩;obtain rfl:i=0:=by simpa using u
  rfl;rw[Zn];rw[QG (bw _ _ _ NU),Qo NV.symm,QI (by simp only[Ky];exact NU),Zn];have RX:=Qb Dg;have bx:yu≠q:=XW Dg IS (.inl nofun);have b0:=XW Dg a5 (.inl nofun);have a9:=XW Dg a0 (.inl nofun);rcases a8 with ⟨rfl,rfl⟩|⟨Z,gE,GH,rfl,bu,F,GI⟩;apply Qh L;simp only[go_sem,Qj,IS,J,br,Dg,RX,QI,Qo bx];have bA:∀(A B:Ob) {l},l<r.length->l<((r.set yu A).set q B).length:=λA B l c=>by simp only[Ky];exact c
  refine⟨ω,⟨ω,Zw⟩,T,_,Qs.frame (by simp only[go_sem,QS]),_,_,_,_,_,_,_,_,Bt _ σ (λl c y=>by rw[QG (bA _ _ c),Qo (P y ⟨qo,qt⟩),Qo (P y ny)]) W (by rw[QG (bA _ _ z0),Qo n0,Qo b0]) (by rw[QG (bA _ _ z1),Qo n1,Qo a9]) ((QG (bA _ _ J)).trans (QI (by simp only[Ky];exact J))) (.inr ⟨yu,gR+1,_,?_,.inr ny,?_,nu (r2:=λ_=>Y.r.cells) Dh λi u=>?_⟩) (.inr ⟨r.length+1,0,_,rfl,.inl (Lm _),VS (by simp only[Ky]),λi u=>Z3 i u⟩),rfl⟩;rw[Zn];rfl;rw[QG (bA _ _ RX),Qo bx.symm,QI RX,Zn];rfl;obtain rfl:i=0:=by simpa using u
  rfl;have NU:=Qb F;have NV:Z≠q:=XW F IS (.inl nofun);have b5:Z≠yu:=XW F Dg (.inr nofun);have a7:=XW F a5 (.inl nofun);have a6:=XW F a0 (.inl nofun);apply Qh L;simp only[go_sem,Qj,IS,J,br,Dg,RX,F,NU,QI,Qo bx,Qo NV,Qo NV.symm,Qo b5.symm];have RY:∀(A B C D:Ob) {l},l<r.length->l<((((r.set yu A).set q B).set Z C).set q D).length:=λA B C D l c=>by simp only[Ky];exact c
  refine⟨ω,⟨ω,Zw⟩,T,_,Qs.frame (by simp only[go_sem,QS]),_,_,_,_,_,_,_,_,Bt _ σ (λl c y=>by rw[QG (RY _ _ _ _ c),Qo (P y ⟨qo,qt⟩),Qo (P y bu),Qo (P y ⟨qo,qt⟩),Qo (P y ny)]) W (by rw[QG (RY _ _ _ _ z0),Qo n0,Qo a7,Qo n0,Qo b0]) (by rw[QG (RY _ _ _ _ z1),Qo n1,Qo a6,Qo n1,Qo a9]) ((QG (RY _ _ _ _ J)).trans (QI (by simp only[Ky];exact J))) (.inr ⟨yu,gR+1,_,?_,.inr ny,?_,nu (r2:=λ_=>Y.r.cells) Dh λi u=>?_⟩) (.inr ⟨Z,gE+1,_,?_,.inr bu,?_,nu GI λi u=>Z3 i u⟩),rfl⟩;rw[Zn];rfl;rw[QG (RY _ _ _ _ RX),Qo bx.symm,Qo b5,Qo bx.symm,QI RX,Zn];rfl;obtain rfl:i=0:=by simpa using u
  rfl;rw[Zn];rw[QG (RY _ _ _ _ NU),Qo NV.symm,QI (by simp only[Ky];exact NU),Zn]
 obtain rfl:k=x.ops.length:=ω;have dk:=QN T;have hr:=I.hr;have YN:=Qb hr;have hq:=I.hq;have b9:=Qb hq;apply Qh L;simp only[go_sem,T];have oR:dR.VF=true:=by rcases I.sR with ⟨rfl,_⟩|⟨_,_,_,rfl,_⟩<;>rfl
 have oE:dE.VF=true:=by rcases I.sE with ⟨rfl,_⟩|⟨_,_,_,rfl,_⟩<;>rfl
 have Zh:=I.run;rw[Wo]at Zh;rw[Zh];apply Qh L;simp only[go_sem,hr,YN,hq,QI,oR,oE];refine⟨_,_,_,rfl,I.sR.imp id λ⟨U,g,m,V,Q,M,b4⟩=>⟨U,g,m,V,Q,by rw[Qo (XW hr M (.inl nofun))];exact M,b4⟩,I.sE.imp id λ⟨U,g,m,V,Q,M,b4⟩=>⟨U,g,m,V,Q,by rw[Qo (XW hr M (.inl nofun))];exact M,b4⟩⟩
def NW(o:Zt):Bool:=decide (o.changes.length<=40)&&decide (o.rules.length<=40)
def Aq(x:XB)(m:Nat):Bool:=decide (x.ops.length<=m)&&x.ops.all NW
def QmF{b:Type}(l:List b)(d:b)(f):l.all f=true↔∀j,j<l.length->f (l.getD j d)=true:=by rw[jt];constructor;intro h j e;exact h _ (YZ l d j e);intro h a g;obtain⟨i,c,rfl⟩:=j8 g;have:=h i c;simpa[QU,c] using this
def QES(x:XB)(m:Nat)(t:m<1000000):QM prog 22 [.agg x.cells,Qa m] (QR (QV (Aq x m))):=by
 refine Q1 0 func22 ntmps22 results22 λp w l=>?_;simp only[go_sem];by_cases q:m<x.ops.length;simp only[go_sem,q,decide_true];have:Aq x m=false:=by simp[Aq];omega
 rw[this];have s:decide (m<x.ops.length)=false:=ξ;simp only[go_sem,s];refine xT (G:=Nat) [13,14] (λk=>∀j,j<k->NW (x.ops.getD j default)=true) (λk e=>[(15,Qa k)]) (λk e=>[]) (x.ops.length) (0) rfl (Qs.to 0 (by (simp only[go_sem])<;>simp)) ?_ ?_;intro j g;omega;intro k e f o;apply Qg l;have r:=JJ (show k<4611686018427387904 from ω);first|refine WN f (λc=>?_) (λc=>?_)|refine WO f (λc=>?_) (λc=>?_)
 simp only[go_sem,c];have n:¬ (∀j,j<x.ops.length->NW (x.ops.getD j default)=true)->Aq x m=false:=λd=>by rw[jZ];intro i;simp only[Aq,ZM]at i;exact d ((QmF _ default _).1 i.2)
 first|refine zg (λb=>?_) (λb=>?_)|refine zj (λb=>?_) (λb=>?_)|refine zk (λb=>?_) (λb=>?_)|refine VX (λb=>?_) (λb=>?_)|refine zl (λb=>?_) (λb=>?_)|refine zn (λb=>?_) (λb=>?_)|refine zo (λb=>?_) (λb=>?_)|refine ze (λb=>?_) (λb=>?_)
 simp only[go_sem];rw[n (λd=>by have:=d k c;simp only[NW,ZM,W3]at this;omega)];simp only[go_sem];first|refine zg (λa=>?_) (λa=>?_)|refine zj (λa=>?_) (λa=>?_)|refine zk (λa=>?_) (λa=>?_)|refine VX (λa=>?_) (λa=>?_)|refine zl (λa=>?_) (λa=>?_)|refine zn (λa=>?_) (λa=>?_)|refine zo (λa=>?_) (λa=>?_)|refine ze (λa=>?_) (λa=>?_)
 simp only[go_sem];rw[n (λd=>by have:=d k c;simp only[NW,ZM,W3]at this;omega)];simp only[go_sem];repeat (refine And.intro η ?_)
 refine⟨_,Qs.to 0 (by (simp only[go_sem,r])<;>simp),Vj.mk (0) (?_)⟩;intro j g;rcases xJ.1 g with h|rfl;exact o j h;simp only[NW,ZM,W3];omega;simp only[go_sem];apply Qg l;subst c;have:Aq x m=true:=by simp only[Aq,ZM];exact⟨ξ,(QmF _ default _).2 o⟩
 rw[this]
def nz:Zt:=⟨1,[NL 1 65536],[],⟨0,0,0,0,0,0⟩,0⟩
def QmG:Zt:=⟨2,[],[⟨0,0,0,0,0,0,0,0,1⟩],⟨0,0,0,0,0,0⟩,0⟩
def nA:Zt:=⟨3,[],[],⟨7,100,0,0,0,0⟩,0⟩
def QmH:Zt:=⟨4,[],[],⟨0,0,0,0,0,0⟩,150⟩
def bB:List Zt:=[nz,QmG,nA,nA,QmH]
def RZ:XB:=⟨c6,bB⟩
def QET:∀o∈bB,Zt.Ok o/\Zt.Small o:=by have c:Pk.Ok ⟨0,0,0,0,0,0⟩:=⟨π,π,π,π,π,π,trivial⟩;have f:Pk.Ok ⟨7,100,0,0,0,0⟩:=⟨π,π,π,π,π,π,trivial⟩;have j:Jj.Ok (NL 1 65536):=⟨π,⟨π,π,trivial,⟨π,π,π,trivial⟩,⟨π,π,π,trivial⟩,⟨π,π,π,trivial⟩,π,π,trivial⟩,trivial⟩;have i:J6.Ok ⟨0,0,0,0,0,0,0,0,1⟩:=⟨π,π,π,π,π,π,π,π,π,trivial⟩;have b:∀{e:Type} {P:e->Prop},∀a∈([]:List e),P a:=λa h=>(by cases h);intro o g;simp only[bB,QK,List.not_mem_nil,or_false]at g;rcases g with rfl|rfl|rfl|rfl|rfl;exact⟨⟨π,⟨π,λa d=>by obtain rfl:=Xj.1 d;exact j⟩,⟨π,b⟩,c,π,trivial⟩,π,π⟩;exact⟨⟨π,⟨π,b⟩,⟨π,λa d=>by obtain rfl:=Xj.1 d;exact i⟩,c,π,trivial⟩,π,π⟩;exact⟨⟨π,⟨π,b⟩,⟨π,b⟩,f,π,trivial⟩,π,π⟩;exact⟨⟨π,⟨π,b⟩,⟨π,b⟩,f,π,trivial⟩,π,π⟩;exact⟨⟨π,⟨π,b⟩,⟨π,b⟩,c,π,trivial⟩,π,π⟩
def T7:List Ql:=[(NL 1 65536).cls]
def QmI:Z5 [] [NL 1 65536]=T7:=τ
def QmJ:J1 [] T7=[1]:=by unfold J1;have h:Ac [] T7=[1]:=τ;rw[h,Qg3 (Oe [1]) σ];rfl
def M7:Qn:=QlJ [1] (M0 c6) T7
def QEU:jm (M0 c6) T7 true=false:=by unfold jm lP;have h:(M0 c6).T=[]:=rfl;rw[h,QmJ];decide +kernel
def QEV:qf (M0 c6) true [NL 1 65536]=0:=by unfold qf;have h:(M0 c6).T=[]:=rfl;rw[h,QmI,QEU];decide +kernel
def QEW:Kp (M0 c6) true [NL 1 65536]=M7:=by unfold Kp;rw[Qe QEV,show (M0 c6).T=[] from rfl,QmI,QDo,show (M0 c6).T=[] from rfl,QmJ];rfl
def S7:Zy:=⟨M7,0,[],⟨λ_=>[],λ_=>default⟩,0,1⟩
def QEX:(J3 (S0 c6) nz).S=S7:=by show Zy.mk (Kp (M0 c6) true [NL 1 65536]) 0 [] _ 0 1=S7;rw[QEW];rfl
def NX:List Ev:=[⟨2,true,false,0,0,1,7,100,0,0,0,0⟩,⟨2,false,false,0,100,1,7,100,0,0,0,0⟩,⟨3,true,false,0,0,1,7,100,0,0,0,0⟩,⟨4,false,false,100,200,1,7,100,0,0,0,0⟩]
def QEY:(Za (S0 c6) bB).2.2=NX:=by show (J3 (S0 c6) nz).l++(Za (J3 (S0 c6) nz).S [QmG,nA,nA,QmH]).2.2=NX;rw[QEX];kernel_rfl
theorem QEZ:(Za (S0 c6) bB).2.1.length=5:=rfl
def QE0{x:XB}{m}(h:Aq x m=true)(d:∀a∈x.ops,Zt.Ok a):x.ops.length<=m/\∀o∈x.ops,Zt.Ok o/\Zt.Small o:=by simp only[Aq,ZM,W3]at h;obtain⟨b,e⟩:=h;refine⟨b,λo c=>?_⟩;have:=jt.1 e o c;simp only[NW,ZM,W3]at this;exact⟨d o c,ω,ω⟩
def Qb2(S:Zy)(c b:Nat):∀e∈(Z2 S c b).2,e.op=c:=by unfold Z2;split;intro e a;cases a;split;intro e a;simp only[Xj]at a;rw[a];rfl;intro e a;cases a
def QmK(b c):∀(n:Nat) (S:Zy),∀e∈(K7 b c n S).2,e.op=b
 | 0,S=>λe a=>by cases a
 | n+1,S=>λe a=>by unfold K7 at a;split at a;cases a;rcases Q3.1 a with h|h;exact Qb2 _ _ _ e h;exact QmK b c n _ e h
def QE1(S:Zy)(o:Zt):∀e∈(J3 S o).l,e.op=S.ops:=by intro e a;have a:e∈(K8 { S with ops:=S.ops+1 } S.ops o).l:=a;unfold K8 at a;split at a;cases a;split at a;split at a<;>cases a;split at a;unfold Yv at a;split at a;cases a;split at a;rcases QK.1 a with h|h;rw[h];rfl;exact Qb2 _ _ _ e h;cases a;split at a;unfold qi at a;split at a;cases a;exact QmK _ _ _ _ e a;cases a
def QL(S:Zy)(n:Nat):Prop:=∀j,(Q4 S.M j).length<=n
def QL.take{S:Zy}{n}(h:QL S n)(a)(j:Int):(Q4 (takeN S.M a) j).length<=n:=by rw[Db];have:=h j;split;rw[List.length_tail];omega;exact this
def QL.put{S:Zy}{n}(h:QL S n)(a b x)(j:Int):(Q4 (Zx S.M a b x) j).length<=n+1:=by rw[NK];have:=h j;split;rw[Zn,K9];omega;omega
def QL.IG{S n}(h:QL S n)(b a:Nat):QL (Z2 S b a).1 n:=by unfold Z2;split;exact h;split;exact h.take a;exact h.take a
def QL.go{a e n}:∀(k:Nat) {S:Zy},QL S n->QL (K7 a e k S).1 n
 | 0,S,h=>h
 | k+1,S,h=>by unfold K7;split;exact h;exact QL.go k (QL.IG (S:={ S with Qc:=Zf S }) h a (Zf S))
def QL.do{S n}(h:QL S n)(o:Zt):QL (J3 S o).S (n+1):=by have a:QL S (n+1):=λj=>Nat.le_succ_of_le (h j);show QL (K8 { S with ops:=S.ops+1 } S.ops o).S (n+1);unfold K8;split;exact λj=>QlR (P:=λq=>q.length<=n+1) (Z7 _) _ _ (a j);split;split<;>exact a;split;unfold Yv;split;exact a;split;exact QL.IG (S:={ { S with ops:=S.ops+1 } with M:=Zx S.M S.Qc (Kc S.R (Z1 o.ZG)) o.ZG,st:=wu S.st (Kc S.R (Z1 o.ZG)) S.Qc }) (λj=>h.put _ _ _ j) _ _;exact λj=>h.put _ _ _ j;split;unfold qi;split;exact a;exact QL.go _ a;exact a
def ZQ.IU{c}(K:Wm c):ZQ (S0 c):=⟨QkK c,Qk8 c,K,λj x hx=>(by cases hx),Qv _,Z7 _,Z7 _,λk=>⟨Dp _,Dp _,Dp _,Dp _,Dp _⟩,λk a b=>(by cases b)⟩
def QL.aX{S:Zy}{n}(h:QL S n)(I:QB S.M):Wf S.M<=64*n:=by have d:=QbP (λc=>(Q4 S.M c.iD).length) n S.M.T λc _=>h c.iD;have a:=I.tree.len;unfold Wf;have b:S.M.T.length*n<=64*n:=V6 n a;omega
def QmL(a e):∀(n:Nat) (S:Zy),(K7 a e n S).2.length<=n
 | 0,S=>Qv _
 | n+1,S=>by unfold K7;split;exact Z7 _;have c:=QmL a e n (Z2 { S with Qc:=Zf S } a (Zf S)).1;have b:=aY { S with Qc:=Zf S } a (Zf S);dsimp only;rw[Zn];omega
def QE2(S:Zy)(o:Zt):(J3 S o).l.length<=Wf S.M+2:=by show (K8 { S with ops:=S.ops+1 } S.ops o).l.length<=_;unfold K8;split;exact Z7 _;split;split<;>exact Z7 _;split;unfold Yv;split;exact Z7 _;split;have a:=aY { { S with ops:=S.ops+1 } with M:=Zx S.M S.Qc (Kc S.R (Z1 o.ZG)) o.ZG,st:=wu S.st (Kc S.R (Z1 o.ZG)) S.Qc } S.ops S.Qc;show (_::_:List Ev).length<=_;rw[Kx];exact J5 (Nat.succ_le_succ a) (Nat.le_add_left 2 _);exact Z7 _;split;unfold qi;split;exact Z7 _;exact J5 (QmL S.ops (S.Qc+o.Vw.toNat) (Wf S.M+1) { S with ops:=S.ops+1 }) (Lm _);exact Z7 _
def Qb3:∀(l:List Zt) {S:Zy} {n:Nat},ZQ S->QL S n->(∀o∈l,Zt.Ok o)->(Za S l).2.2.length<=l.length*(64*(n+l.length)+2)
 | [],S,n,T,h,b=>Z7 _
 | o::l,S,n,T,h,b=>by have c:=(b o Jo).2.1.2;have f:=Qb3 l (T.do c) (h.do o) λa d=>b a (Js _ d);have j:=QE2 S o;have i:=h.aX T.I;show ((J3 S o).l++(Za (J3 S o).S l).2.2).length<=_;rw[Zn,Kx];have e:n+1+l.length=n+(l.length+1):=ω;rw[e]at f;rw[KE,Lp];have g:64*n<=64*(n+(l.length+1)):=Dm 64 (Lk _ _);omega
def Qb4{x:XB}{m}(K:Wm x.config)(c:x.ops.length<=m)(b:m<=1000)(a:∀o∈x.ops,Zt.Ok o):(Za (S0 x.config) x.ops).2.2.length<100000000:=by have h:=Qb3 x.ops (ZQ.IU K) (n:=0) (λj=>Z7 _) a;have d:x.ops.length*(64*(0+x.ops.length)+2)<=1000*(64*1000+2):=Xk ω ω;omega
def QE3(n:Nd):Prop:=n.c.ul.Nn/\(¬1<QJ n.c.ul->n.cp.has=false/\n.cp.fit=0)
def QE4(M:Qn):Prop:=∀n∈M.N,QE3 n
def nB(M:Qn)(a b)(x:Pk):(Zx M a b x).T=M.T:=by have h:=(xq M a).2.1;unfold Zx;split;unfold VE;split;exact h;split;split;rw[QDp];exact h;exact h;exact h;rfl
def QE5(d:D)(a:List Ob):D->List Ob->Prop:=λb h=>b=d/\h=a
attribute [go_sem] QE5
structure Kn where
 nC:Int
 since:Int
 work:Nat
@[go_sem] def Kn.cells(k:Kn):List D:=[.raw (.int .u64 k.nC),.raw (.int .u64 k.since),.raw (.int .i64 k.work)]
def Kn.next(k:Kn)(e:Ev):Kn:=
 if e.Jz=true then ⟨k.nC,if k.work=0 then e.at_ else k.since,k.work+1⟩ else ⟨max k.nC e.done,k.since,k.work-1⟩
def Kn.late(k:Kn)(e:Ev):Bool:=!e.Jz&&(decide (0<k.work)&&decide (max k.nC k.since<e.at_))
def QmM(l:List Ev):Nat->Kn
 | 0=>⟨0,0,0⟩
 | k+1=>(QmM l k).next (l.getD k default)
def WM(l:List Ev)(k:Nat):Bool:=(QmM l k).late (l.getD k default)
structure QE6 (T:List Ql):Prop where
 ul:∀c∈T,¬1<QJ c.ul
 ls:∀c∈T,c.leaf=true->1<QJ c.ls
section
variable {M:Qn}(I:QB M)(V:Inv M)(F:QE4 M)(P:QE6 M.T)
include I V F P
end
structure IV where
 Zv:Int
 to:Int
instance:Inhabited IV:=⟨⟨0,0⟩⟩
@[go_sem] def IV.cells(s:IV):List D:=[.raw (.int .u64 s.Zv),.raw (.int .u64 s.to)]
def IV.rows(l:List IV):Nat->List D:=λi=>(l.getD i default).cells
@[go_sem] theorem IV.vN(l:List IV)(i):IV.rows l i=(l.getD i default).cells:=rfl
def rw_(l:List Ev):Nat->Nat
 | 0=>0
 | k+1=>if (l.getD k default).Jz=true then rw_ l k+1 else rw_ l k-1
@[simp] theorem QLd(l:List Ev):rw_ l 0=0:=rfl
def QE7(l:List Zt){k}(a:k<l.length):l.take (k+1)=l.take k++[l.getD k default]:=by rw[zQ,QH a,QU,QH a];rfl
def EM(l:List Zt):Bool:=(l.drop 1).all λo=>o.kind != 1
def still_at{l:List Zt}(h:EM l=true){k}(a:k<l.length)(c:0<k):(l.getD k default).kind≠1:=by
 have b:=jt.1 h (l.getD k default) (by rw[QU,QH a];obtain⟨j,rfl⟩:∃j,k=j+1:=⟨k-1,ω⟩;refine Oh (i:=j) ?_;rw[GX,Ol,QH a];rfl)
 simpa using b
section
variable {T:List Ql}(I:KF T)
include I
end
section
variable {T:List Ql}(I:KF T)
include I
end
def Wy(l:Ln):Int:=l.y-(l.m:Int)*l.x
structure Ar (m X:Nat) (l:Ln):Prop where
 m:l.m=m
 x:l.x<=X
 y:l.y<=1329227995784915872903807060280344576
def Ar.le{m X Y l}(h:Ar m X l)(e:X<=Y):Ar m Y l:=⟨h.m,J5 h.x e,h.y⟩
def QmN{m d}(a:m<=4294967295)(b:d<=9223372036854775807):m*d<=39614081247908796759917199360:=J5 (Xk a b) π
def Qb5{m X x l}(h:Ar m X l)(a:m<=4294967295)(d:X<=x)(c:x<=9223372036854775807):(qI l x:Int)=Wy l+(m:Int)*x:=by
 have hx:=h.x;have b:=h.y;have e:qI l x=l.y+m*(x-l.x):=by unfold qI;split;rw[show x-l.x=0 by omega];rfl;have:=QmN a (show x-l.x<=9223372036854775807 from ω);rw[h.m,kg ω]
 have f:((m*(x-l.x):Nat):Int)=(m:Int)*x-(m:Int)*l.x:=by rw[zO,bO ω,Int.mul_sub]
 unfold Wy;rw[e,h.m];omega
def QmO{m X a b}(d:Ar m X a)(c:Ar m X b)(e:m<=4294967295)(h:X<=9223372036854775807):Ar m X (jd a b)/\Wy (jd a b)<=Wy a/\Wy (jd a b)<=Wy b:=by have j:=d.x;have i:=c.x;have g:=Qb5 ⟨d.m,show a.x<=max a.x b.x by omega,d.y⟩ e (Qv _) ω;have f:=Qb5 ⟨c.m,show b.x<=max a.x b.x by omega,c.y⟩ e (Qv _) ω;unfold jd;split;exact⟨c,ω,qW _⟩;exact⟨d,qW _,ω⟩
def QE8{n m}(a:0<m):n<=m*cdiv n m:=by unfold cdiv;have:=Sv (n+m-1) m;have:=Xt (n+m-1) a;omega
def nD{m X a w l}(h:Ar m X l)(c:m<=4294967295)(g:X<=a)(f:a<=9223372036854775807)(b:Xe l w<=a):(w:Int)<=Wy l+(m:Int)*a:=by
 have hx:=h.x;rw[<-Qb5 h c g f];have e:qI l a=l.y+m*(a-l.x):=by unfold qI;have j:=h.y;split;rw[show a-l.x=0 by omega];rfl;have:=QmN c (show a-l.x<=9223372036854775807 from ω);rw[h.m,kg ω]
 rw[e];unfold Xe at b;split at b;have:w<=l.y+m*(a-l.x):=ω
 exact_mod_cast this
 split at b;unfold never at b;omega;rename_i d;rw[h.m]at b d;have k:=QE8 (n:=w-l.y) (m:=m) ω;have i:m*cdiv (w-l.y) m<=m*(a-l.x):=Dm m ω;have:w<=l.y+m*(a-l.x):=ω
 exact_mod_cast this
structure RnB (c:Nc) (X:Nat) (r:Rn):Prop where
 b:r.b=decide (c.of=3)
 t:Ar c.b X r.t
 f:c.of=3->Ar c.a X r.f
structure UlC (c:Nc):Prop where
 k:c.of=2\/c.of=3
 a:c.a<=4294967295
 b:c.b<=4294967295
 d:c.d<=1048576
 ba:c.of=3->c.b<c.a
 two:c.of=2->c.d=0
def RnB.le{c X Y r}(h:RnB c X r)(e:X<=Y):RnB c Y r:=⟨h.b,h.t.le e,λk=>(h.f k).le e⟩
def QFa{M:Qn}(V:Inv M){a}(c:WY M a=true):∃n,Qi M.N (Jc M a)=some n/\1<QJ n.c.rt:=by
 obtain⟨t1,_,_⟩:=xq M a;unfold WY at c;unfold Jc;cases b:XH M a with
 | none=>rw[b]at c;cases c
 | some x=>rw[b]at c;dsimp only at c ⊢;unfold XH at b;split at b;unfold Vo at b;have d:=Gz (ZA M a) a;split at b;rename_i y f;cases b;rw[f]at d;have g:y∈(ZA M a).Lv:=(JB.1 d.1).1;obtain⟨n,e,_,_,h,_⟩:=((V.told a).lv y).1 g;exact⟨n,by rw[<-t1];exact e,h⟩;obtain⟨id,e,rfl⟩:=WK.1 b;cases c;cases b
def QmP{M:Qn}(I:QB M)(V:Inv M){a}(h:Wn M a=true):∃n,Qi M.N (Jc M a)=some n/\n.c.leaf=true:=by
 obtain⟨t1,_,_⟩:=xq M a;unfold Wn at h;unfold Jc;cases b:XH M a with
 | none=>rw[b]at h;cases h
 | some x=>unfold XH at b;split at b;obtain⟨n,d,c,_⟩:=(V.told a).pick (Af I a) (Gz _ _) b;exact⟨n,by rw[<-t1];exact d,c⟩;cases b
structure Gh where
 n:Nat
 g:List (Nat × Nat)
 k:Nat
def Gh.next(a:List Int)(s:Gh)(e:Ev):Gh:=
 if a.contains e.cls=true then (if e.Jz=true then ⟨s.n+1,if s.n=0 then (e.at_.toNat,0)::s.g else s.g,s.k⟩ else ⟨s.n-1,s.g.map λx=>(x.1,x.2+e.len.toNat),s.k+1⟩) else s
def QFb(c:Nc)(b:Nat)(a:List Int)(s:Gh)(e:Ev):Prop:=
 a.contains e.cls=true->e.Jz=false->∀x∈(s.next a e).g,(x.1:Int)<=e.at_/\x.2<=Jg c.a c.d c.b (e.at_.toNat-x.1)/65536+b
def QmQ(c:Nc)(b:Nat)(a:List Int):Gh->List Ev->Prop
 | _,[]=>True
 | s,e::l=>QFb c b a s e/\QmQ c b a (s.next a e) l
def QFc{M:Qn}(I:QB M)(V:Inv M){j}(h:Q4 M j≠[]):j∈V5 M/\j∈up M.T j:=by
 unfold Q4 Qz at h;cases c:Qi M.N j with
 | none=>rw[c]at h;exact absurd rfl h
 | some n=>
  have d:n.c.leaf=true:=by
   cases d:n.c.leaf with
   | true=>rfl
   | false=>have:=V.CZ j n c d;rw[c]at h;refine absurd ?_ h;show n.q.l=[];rw[this]
  have f:=QB.id (M:=M) c;refine⟨JB.2 ⟨Jw.2 ⟨n.c,JB.2 ⟨((VK I.tree.rising).1 (I.some c)).1,d⟩,f⟩,?_⟩,?_⟩;show (!(Qz M j).q.l.isEmpty)=true;unfold Qz;rw[c];rw[c]at h;cases e:n.q.l with
  | nil=>exact absurd e h
  | cons a b=>show (!((some n).getD default).q.l.isEmpty)=true;show (!n.q.l.isEmpty)=true;rw[e];rfl
  rw[gY I.tree,I.some c];exact Jo
def QFd{M}(I:QB M)(V:Inv M)(b){l}(i:∀c∈l,Jj.Ok c)(j):Q4 (Kp M b l) j=Q4 M j:=by
 unfold Kp;split;rename_i a;have g:=(Re I.tree I.xn i).1;have f:jm M (Z5 M.T l) b=false:=by unfold qf at a;split at a;rename_i h;exact absurd a h;split at a;cases a;rename_i h;simpa using h
 have d:Qi (wm M (Z5 M.T l)).N j=if j∈J1 M.T (Z5 M.T l) then (Qw (Z5 M.T l) j).map Yd else Qi M.N j:=by show Qi (XV M (Z5 M.T l)) j=_;rw[Ix I g];exact Gu g.rising j _ _
 by_cases e:j∈J1 M.T (Z5 M.T l);rw[Qe e]at d;have n:Q4 M j=[]:=j5 λh=>by obtain⟨m,k⟩:=QFc I V h;have:yq M j=true:=j6.2 ⟨j,m,by simpa using k⟩;unfold jm at f;rw[show (J1 M.T (Z5 M.T l)).any (yq M)=true from j6.2 ⟨j,e,this⟩]at f;cases f
 rw[n];unfold Q4 Qz;rw[d];cases Qw (Z5 M.T l) j<;>rfl;rw[Qd e]at d;unfold Q4 Qz;rw[d];rfl
def QmR{M}(I:QB M){j}(h:Q4 M j≠[]):1<=j:=by
 unfold Q4 Qz at h;cases a:Qi M.N j with
 | none=>rw[a]at h;exact absurd rfl h
 | some n=>have b:=QB.id (M:=M) a;have:=I.tree.ids n.c ((VK I.tree.rising).1 (I.some a)).1;omega
def Ev.pk(e:Ev):Pk:=⟨e.id,e.len,e.h0,e.h1,e.h2,e.h3⟩
def R0(a b:Pk):Bool:=a.iD==b.iD&&(a.len==b.len&&(a.xX==b.xX&&(a.xY==b.xY&&(a.xZ==b.xZ&&a.x5==b.x5))))
def QFe(a b):R0 a b=true↔a=b:=by obtain⟨n,m,l,k,j,i⟩:=a;obtain⟨h,g,f,e,d,c⟩:=b;simp[R0]
@[go_sem] def QFf(x:Cf)(a:Nat)(l:Ev)(done:Int)(q:D):List D:=[Qa x.t,Qa x.Ze,.mref a 0,Qa l.op,QV l.Jz,QV l.real,aS l.at_,aS l.done,Qa l.cls,aS l.id,Qa l.len,.raw (.int .u16 l.h0),.raw (.int .u16 l.h1),.raw (.int .u16 l.h2),.raw (.int .u16 l.h3),aS done,q]
section
variable (h:List Ob)(lb la lm:Nat)(x:Cf)(l:Ev)(done:Int)(q:D)(e:Ev)
 (aA:(h.map Ob.ro)[lb]?=some ⟨.Wp,0,1,1,λ_=>[.ptr la 0 0 0]⟩) (ha:(h.map Ob.ro)[la]?=some ⟨.Wp,0,17,1,λ_=>QFf x lm l done q⟩)
include aA ha
variable {es:List ZL}{c:Nat}{p:List Pk}(hm:(h.map Ob.ro)[lm]?=some (QT .i64 c es).ro)
include hm
end
section
variable (h:List Ob)(lw:Nat)(e:Ev)(f:FuncId)(lc:Nat)(B:Bool)
end
def qm(W:Int->List Pk)(e:Ev):Int->List Pk:=λk=>if k=e.cls then (if e.Jz then W k++[e.pk] else (W k).tail) else W k
def NY:Ev:=⟨0,false,false,0,0,0,0,0,0,0,0,0⟩
def wAt(l:List Ev):Nat->Int->List Pk
 | 0=>λ_=>[]
 | i+1=>qm (wAt l i) (l.getD i default)
def R4(l:List Ev):Nat->Ev
 | 0=>NY
 | i+1=>l.getD i default
def Qb8(l:List Ev):Nat->Int
 | 0=>0
 | i+1=>if (l.getD i default).Jz then Qb8 l i else (l.getD i default).done
def nE(x:Cf)(W:Int->List Pk)(a:Ev)(done:Int)(e:Ev):Nat->Bool
 | 0=>decide (e.op<0\/e.op<a.op\/e.cls<1)
 | 1=>decide (e.at_<a.at_\/4611686018427387904<e.at_)
 | 2=>wv e.pk x.Ze != 0
 | 3=>e.Jz&&(e.done != 0 || e.real)
 | 4=>!e.Jz&&(W e.cls).length==0
 | 5=>!e.Jz&&!R0 ((W e.cls).getD 0 default) e.pk
 | 6=>!e.Jz&&decide (e.at_<done)
 | _=>!e.Jz&&e.done != IntKind.u64.wrap (e.at_+xy e.pk x.t)
def qAt(x:Cf)(l:List Ev)(i k:Nat):Bool:=nE x (wAt l i) (R4 l i) (Qb8 l i) (l.getD i default) k
def QFg:Nat->Int
 | 0=>1
 | 1=>27
 | 2=>26
 | 3=>4
 | 4=>6
 | 5=>8
 | 6=>24
 | _=>20
section
end
def QFh(l:List Pk):D:=.imm 6 l.length (Pk.rows l)
attribute [go_sem] QFh
def QmS(x:Cf)(l:List Ev)(i:Nat):Option Nat:=(List.range 8).find? (qAt x l i)
def QFi(x:Cf)(l:List Ev):Option Nat:=(List.range l.length).find? λi=>(QmS x l i).isSome
def Qca(x:Cf)(l:List Ev):Int × Int:=if 1<=x.t/\x.t<=65536/\1<=x.Ze/\x.Ze<=16384 then (match QFi x l with
 | some i=>(i,match QmS x l i with
  | some k=>QFg k
  | none=>0)
 | none=>(0,0)) else (0,7)
def lA:Ev:=⟨0,true,false,5,0,3,7,100,0,0,0,0⟩
def lB:Ev:=⟨0,false,false,5,105,3,7,100,0,0,0,0⟩
def lC:Ev:=⟨0,false,false,5,104,3,7,100,0,0,0,0⟩
def lX:Cf:=⟨1,100⟩
def v1:Qca lX [lA,lB]=(0,0):=π
def v2:Qca lX [lA,lC]=(1,20):=π
def v3:Qca lX [lB]=(0,6):=π
def GK(d:Int)(e:Ev):Int:=if e.Jz=true then d else e.done
def IW(x:Cf):(Int->List Pk)->Ev->Int->List Ev->Prop
 | _,_,_,[]=>True
 | W,a,d,e::l=>(∀k,k<8->nE x W a d e k=false)/\IW x (qm W e) e (GK d e) l
def QmT(x):∀(l m:List Ev) (W:Int->List Pk) (a:Ev) (d:Int),IW x W a d l->IW x (l.foldl qm W) (l.foldl (λ_ e=>e) a) (l.foldl GK d) m->IW x W a d (l++m)
 | [],m,W,a,d,_,h=>h
 | e::l,m,W,a,d,b,c=>⟨b.1,QmT x l m _ _ _ b.2 c⟩
def QmU(l:List Ev):∀k,k<=l.length->wAt l k=(l.take k).foldl qm (λ_=>[])/\R4 l k=(l.take k).foldl (λ_ e=>e) NY/\Qb8 l k=(l.take k).foldl GK 0
 | 0,_=>⟨rfl,rfl,rfl⟩
 | k+1,h=>by obtain⟨b,c,a⟩:=QmU l k ω;rw[getD_take _ default _ ω,qu,qu,qu,<-b,<-a];exact⟨rfl,rfl,rfl⟩
def QmV(x):∀(l:List Ev) (W:Int->List Pk) (a:Ev) (d:Int),IW x W a d l->∀i,i<l.length->∀k,k<8->nE x ((l.take i).foldl qm W) ((l.take i).foldl (λ_ e=>e) a) ((l.take i).foldl GK d) (l.getD i default) k=false
 | [],_,_,_,_,i,c,_,_=>absurd c (Yy i)
 | e::l,W,a,d,h,0,_,k,b=>h.1 k b
 | e::l,W,a,d,h,i+1,c,k,b=>QmV x l _ _ _ h.2 i (zC c) k b
def QmW{x}{l:List Ev}(h:IW x (λ_=>[]) NY 0 l){i}(b:i<l.length){k}(a:k<8):qAt x l i k=false:=by obtain⟨e,d,c⟩:=QmU l i ω;unfold qAt;rw[e,d,c];exact QmV x l _ _ _ h i b k a
structure GL (x:Cf) (W:Int->List Pk) (a:Ev) (d:Int) (S:Zy):Prop where
 w:∀j,W j=Q4 S.M j
 d:d=S.Ja
 at_:a.at_<=S.Qc
 o0:a.op<=S.ops
 lk:S.M.lk=x
structure GM (x:Cf) (W:Int->List Pk) (a:Ev) (d:Int) (l:List Ev) (S':Zy):Prop where
 ok:IW x W a d l
 st:GL x (l.foldl qm W) (l.foldl (λ_ e=>e) a) (l.foldl GK d) S'
def QFj(p:Pk):R0 p p=true:=(QFe p p).2 rfl
def QmX{x:Cf}(K:Wm x){p:Pk}(h:1<=p.len/\p.len<=x.Ze):wv p x.Ze=0:=by have:=K.l1;have:=K.l2;unfold wv;rw[Qd ω,Qd ω]
def QFk{x:Cf}(K:Wm x){p:Pk}(h:1<=p.len/\p.len<=x.Ze):xy p x.t=WI x p.len:=by
 have d:=K.t1;have c:=K.t2;have b:=K.l2;have e:=IF K h;have a:((WI x p.len:Nat):Int)=p.len*x.t:=by unfold WI;rw[zO,ET ω,ET ω]
 unfold xy;rw[Qe ω,<-a,IntKind.wrap_u64];omega
def QmY{x}{S:Zy}(T:ZQ S){W}{a:Ev}{d}(A:GL x W a d S){op}(r:op<=S.ops)(w:a.op<=op):GM x W a d (Z2 S op S.Qc).2 (Z2 S op S.Qc).1/\(∀e∈(Z2 S op S.Qc).2,e.op=op):=by
 refine⟨?_,Qb2 S op S.Qc⟩;unfold Z2;split;exact⟨trivial,A⟩;rename_i p;split;rename_i h;have b:=T.take_len h;obtain⟨y,L,i,m⟩:=RJ T.I T.V h;have f:Wm x:=A.lk▸T.K;rw[A.lk]at b;have q:=IF f b;have t:=T.cl;have z:=T.un;have u:=QmR T.I (j:=Jc S.M S.Qc) (by rw[i];exact bU _ _);have c:=A.w (Jc S.M S.Qc);rw[i]at c;rw[<-m]at c;have v:=A.at_;have s:=A.d;refine⟨⟨λk o=>?_,trivial⟩,?_,?_,?_,?_,?_⟩;have l:W (Jc S.M S.Qc)=JA S.M S.Qc::L:=c;match k,o with
 | 0,_=>exact QN (by show ¬((op:Int)<0\/(op:Int)<a.op\/Jc S.M S.Qc<1);omega)
 | 1,_=>exact QN (by show ¬((S.Qc:Int)<a.at_\/4611686018427387904<(S.Qc:Int));omega)
 | 2,_=>show (wv (JA S.M S.Qc) x.Ze != 0)=false;rw[QmX f b];rfl
 | 3,_=>rfl
 | 4,_=>show ((W (Jc S.M S.Qc)).length==0)=false;rw[l];rfl
 | 5,_=>show (!R0 ((W (Jc S.M S.Qc)).getD 0 default) (JA S.M S.Qc))=false;rw[l];show (!R0 (JA S.M S.Qc) (JA S.M S.Qc))=false;rw[QFj];rfl
 | 6,_=>exact QN (by show ¬((S.Qc:Int)<d);omega)
 | 7,_=>show (((S.Qc+WI S.M.lk (JA S.M S.Qc).len:Nat):Int) != IntKind.u64.wrap ((S.Qc:Int)+xy (JA S.M S.Qc) x.t))=false;rw[QFk f b,A.lk,IntKind.wrap_u64];refine QvA ?_;omega
 | n+8,h=>exact absurd h ω
 intro j;show qm W (Dc op (WY S.M S.Qc) S.Qc (S.Qc+WI S.M.lk (JA S.M S.Qc).len) (Jc S.M S.Qc) (JA S.M S.Qc)) j=Q4 (takeN S.M S.Qc) j;rw[Db];unfold qm;by_cases e:j=Jc S.M S.Qc;rw[Qe (show j=(Dc op (WY S.M S.Qc) S.Qc (S.Qc+WI S.M.lk (JA S.M S.Qc).len) (Jc S.M S.Qc) (JA S.M S.Qc)).cls from e),Qe (show Wn S.M S.Qc=true/\Jc S.M S.Qc=j from ⟨h,e.symm⟩),A.w j];rfl;rw[Qd (show ¬j=(Dc op (WY S.M S.Qc) S.Qc (S.Qc+WI S.M.lk (JA S.M S.Qc).len) (Jc S.M S.Qc) (JA S.M S.Qc)).cls from e),Qd (show ¬(Wn S.M S.Qc=true/\Jc S.M S.Qc=j) from λg=>e g.2.symm)];exact A.w j;rfl;show ((S.Qc:Nat):Int)<=(S.Qc:Nat);omega;show ((op:Nat):Int)<=(S.ops:Nat);omega;exact(yr _ _).trans A.lk;rename_i h;refine⟨trivial,⟨λj=>?_,A.d,A.at_,A.o0,(yr _ _).trans A.lk⟩⟩;show W j=Q4 (takeN S.M S.Qc) j;rw[Db,Qd λg=>h g.1];exact A.w j
def QFl{l:List Ev}{a:Ev}{c:Nat}(h:∀e∈l,e.op=c)(g:a.op<=c):(l.foldl (λ_ e=>e) a).op<=c:=by
 induction l generalizing a with
 | nil=>exact g
 | cons e l d=>exact d (λb f=>h b (Js _ f)) (Int.le_of_eq (h e Jo))
def GM.app{x W a d}{l m:List Ev}{c b}(A:GM x W a d l c)(B:GM x (l.foldl qm W) (l.foldl (λ_ e=>e) a) (l.foldl GK d) m b):GM x W a d (l++m) b:=
 ⟨QmT x l m W a d A.ok B.ok,by rw[qu,qu,qu];exact B.st⟩
def QmZ{x b e}(k:e<=4611686018427387904):∀(n:Nat) {S:Zy} {W:Int->List Pk} {a:Ev} {d:Int},ZQ S->S.Qc<=e->GL x W a d S->b<=S.ops->a.op<=b->GM x W a d (K7 b e n S).2 (K7 b e n S).1
 | 0,S,W,a,d,T,h,A,_,_=>⟨trivial,⟨A.w,A.d,by have:=A.at_;show a.at_<=(e:Nat);omega,A.o0,A.lk⟩⟩
 | n+1,S,W,a,d,T,h,A,c,j=>by
  have r:=A.at_;unfold K7;split;exact⟨trivial,⟨A.w,A.d,by show a.at_<=(e:Nat);omega,A.o0,A.lk⟩⟩;rename_i q;have l:=aO S T.cl;have g:=T.at_ l (show Zf S<=4611686018427387904 from ω);have p:GL x W a d { S with Qc:=Zf S }:=⟨A.w,A.d,by show a.at_<=(Zf S:Nat);omega,A.o0,A.lk⟩;obtain⟨i,o⟩:=QmY g p c j;have m:=g.IG b;have f:=II { S with Qc:=Zf S } b (Zf S);have R:=QmZ k n m (by have:=f.1;show (Z2 { S with Qc:=Zf S } b (Zf S)).1.Qc<=e;rw[this];show Zf S<=e;omega) i.st (by show b<=(Z2 { S with Qc:=Zf S } b (Zf S)).1.ops;rw[f.2.1];exact c) (QFl o j)
  exact i.app R
def QFm{x S}(T:ZQ S){W a d}(A:GL x W a d S){o:Zt}(r:∀c∈o.changes,Jj.Ok c):GM x W a d (J3 S o).l (J3 S o).S:=by
 have b:GL x W a d { S with ops:=S.ops+1 }:=⟨A.w,A.d,A.at_,by have:=A.o0;show a.op<=((S.ops+1:Nat):Int);omega,A.lk⟩;have w:=A.o0;show GM x W a d (K8 { S with ops:=S.ops+1 } S.ops o).l (K8 { S with ops:=S.ops+1 } S.ops o).S;unfold K8;split;exact⟨trivial,⟨λj=>(A.w j).trans (QFd T.I T.V _ r j).symm,b.d,b.at_,b.o0,(RI _ _ _).trans A.lk⟩⟩;split;split;exact⟨trivial,⟨b.w,b.d,b.at_,b.o0,b.lk⟩⟩;exact⟨trivial,b⟩;split;unfold Yv;split;exact⟨trivial,b⟩;split;rename_i g;have g:qO S.M S.Qc (Kc S.R (Z1 o.ZG)) o.ZG=0:=g;have p:=(T.ops (S.ops+1)).put (Kc S.R (Z1 o.ZG)) o.ZG;have v:=p.Jq (Kc S.R (Z1 o.ZG)) S.Qc (by have:=T.cl;omega);have l:=Qbu g;rw[A.lk]at l;have s:Wm x:=A.lk▸T.K;have z:=T.cl;have C:=A.at_;have i:∀j,Q4 (Zx S.M S.Qc (Kc S.R (Z1 o.ZG)) o.ZG) j=if Kc S.R (Z1 o.ZG)=j then Q4 S.M j++[o.ZG] else Q4 S.M j:=λj=>by rw[NK];by_cases e:Kc S.R (Z1 o.ZG)=j;rw[Qe ⟨g,e⟩,Qe e];rw[Qd λh=>e h.2,Qd e]
 have B:=QmR p.I (j:=Kc S.R (Z1 o.ZG)) (by show Q4 (Zx S.M S.Qc (Kc S.R (Z1 o.ZG)) o.ZG) _≠[];rw[i,Qe rfl];simp);obtain⟨E,f⟩:=Zc (Xs S.ops S.Qc (Kc S.R (Z1 o.ZG)) o.ZG);have y:GL x (qm W E) E d { { S with ops:=S.ops+1 } with M:=Zx S.M S.Qc (Kc S.R (Z1 o.ZG)) o.ZG,st:=wu S.st (Kc S.R (Z1 o.ZG)) S.Qc }:=by refine⟨λj=>?_,A.d,?_,?_,(BA _ _ _ _).trans A.lk⟩;show qm W E j=Q4 (Zx S.M S.Qc (Kc S.R (Z1 o.ZG)) o.ZG) j;rw[i];unfold qm;subst f;by_cases e:Kc S.R (Z1 o.ZG)=j;rw[Qe e,Qe (show j=(Xs S.ops S.Qc (Kc S.R (Z1 o.ZG)) o.ZG).cls from e.symm),A.w j];rfl;rw[Qd e,Qd (show ¬j=(Xs S.ops S.Qc (Kc S.R (Z1 o.ZG)) o.ZG).cls from λh=>e h.symm)];exact A.w j;subst f;show ((S.Qc:Nat):Int)<=(S.Qc:Nat);omega;subst f;show ((S.ops:Nat):Int)<=((S.ops+1:Nat):Int);omega
 obtain⟨q,_⟩:=QmY v y (op:=S.ops) (Lm _) (by subst f;exact qW _);have u:∀k,k<8->nE x W a d E k=false:=λk t=>by
  subst f;match k,t with
  | 0,_=>exact QN (by show ¬((S.ops:Int)<0\/(S.ops:Int)<a.op\/Kc S.R (Z1 o.ZG)<1);omega)
  | 1,_=>exact QN (by show ¬((S.Qc:Int)<a.at_\/4611686018427387904<(S.Qc:Int));omega)
  | 2,_=>show (wv o.ZG x.Ze != 0)=false;rw[QmX s l];rfl
  | 3,_=>rfl
  | 4,_=>rfl
  | 5,_=>rfl
  | 6,_=>rfl
  | 7,_=>rfl
  | n+8,h=>exact absurd h ω
 have m:GK d E=d:=by subst f;rfl
 rw[<-f];refine⟨⟨u,?_⟩,?_⟩;rw[m];exact q.ok;show GL x (List.foldl qm (qm W E) _) (List.foldl _ E _) (List.foldl GK (GK d E) _) _;rw[m];exact q.st;rename_i g;refine⟨trivial,⟨λj=>?_,b.d,b.at_,b.o0,(BA _ _ _ _).trans A.lk⟩⟩;show W j=Q4 (Zx S.M S.Qc (Kc S.R (Z1 o.ZG)) o.ZG) j;rw[NK,Qd λh=>g h.1];exact A.w j;split;unfold qi;split;exact⟨trivial,b⟩;rename_i Qb;have:=T.cl;have Qb:¬(4611686018427387904-S.Qc<o.Vw.toNat):=Qb;exact QmZ (S:={ S with ops:=S.ops+1 }) (by show S.Qc+o.Vw.toNat<=_;omega) _ (T.ops _) (by show S.Qc<=S.Qc+_;omega) b (Lm _) w;exact⟨trivial,b⟩
def bC{x}:∀(l:List Zt) {S:Zy} {W:Int->List Pk} {a:Ev} {d:Int},ZQ S->GL x W a d S->(∀o∈l,Zt.Ok o)->GM x W a d (Za S l).2.2 (Za S l).1
 | [],S,W,a,d,T,A,c=>⟨trivial,A⟩
 | o::l,S,W,a,d,T,A,c=>by have e:=(c o Jo).2.1.2;have f:=QFm T A e;exact f.app (bC l (T.do e) f.st λb g=>c b (Js _ g))
def NZ(a:List Int)(n:Nat)(e:Ev):Nat:=if a.contains e.cls then (if e.Jz then n+1 else n-1) else n
def jV(W:Int->List Pk)(a:List Int):Nat:=(a.map λn=>(W n).length).sum
def Qm0{W b a}(h:∀n∈a,b n=W n):jV b a=jV W a:=by unfold jV;congr 1;exact AB λn c=>by rw[h n c]
def Qcb{W W'}{q:Int}{a b}:∀{c:List Int},c.Nodup->q∈c->(W' q).length+a=(W q).length+b->(∀n,n≠q->W' n=W n)->jV W' c+a=jV W c+b
 | [],_,h,_,_=>by cases h
 | x::c,d,h,j,f=>by
  rw[Z6]at d;have k:jV W' (x::c)=(W' x).length+jV W' c:=by simp[jV]
  have g:jV W (x::c)=(W x).length+jV W c:=by simp[jV]
  rw[k,g];by_cases e:x=q;subst e;rw[Qm0 λn i=>f n λe=>d.1 (e▸i)];omega;have l:=Qcb d.2 ((QK.1 h).resolve_left λg=>e g.symm) j f;rw[f x e];omega
def QFn{W}{d:List Int}(j:d.Nodup){e:Ev}(k:e.Jz=false->W e.cls≠[]):jV (qm W e) d=NZ d (jV W d) e:=by
 have c:∀n,n≠e.cls->qm W e n=W n:=λn h=>by unfold qm;rw[Qd h]
 unfold NZ;by_cases g:d.contains e.cls=true;rw[Qe g];have f:e.cls∈d:=by simpa using g
 cases i:e.Jz with
 | true=>have:=Qcb (W:=W) (W':=qm W e) (a:=0) (b:=1) j f (by unfold qm;rw[Qe rfl,i,Qe rfl,Zn];rfl) c;rw[Qe rfl];omega
 | false=>have l:=k i;have o:0<(W e.cls).length:=Sr.2 l;have:=Qcb (W:=W) (W':=qm W e) (a:=1) (b:=0) j f (by unfold qm;rw[Qe rfl,i,Qd xE,List.length_tail];omega) c;rw[Qd xE];omega
 rw[Qd g];refine Qm0 λn f=>c n λm=>g ?_;rw[<-m];simpa using f
def Qm1{x}{b:List Int}(f:b.Nodup):∀(l:List Ev) (W:Int->List Pk) (a:Ev) (d:Int),IW x W a d l->l.foldl (NZ b) (jV W b)=jV (l.foldl qm W) b
 | [],W,a,d,_=>rfl
 | e::l,W,a,d,h=>by
  have c:=h.1 4 π;have g:e.Jz=false->W e.cls≠[]:=λi j=>by have c:(!e.Jz&&(W e.cls).length==0)=false:=c;rw[i,j]at c;cases c
  rw[qX,qX,<-QFn f g];exact Qm1 f l _ _ _ h.2
def Qm2:∀b:List Int,jV (λ_=>[]) b=0
 | []=>rfl
 | a::l=>by have:=Qm2 l;show ([]:List Pk).length+jV (λ_=>[]) l=0;rw[this];rfl
def QFo{c}(K:Wm c)(l:List Zt)(e:∀o∈l,Zt.Ok o){lv:List Int}(b:lv.Nodup):(Za (S0 c) l).2.2.foldl (NZ lv) 0=(lv.map λn=>(Q4 (Za (S0 c) l).1.M n).length).sum:=by have A:=bC (x:=c) l (ZQ.IU K) (W:=λ_=>[]) (a:=NY) (d:=0) ⟨λj=>rfl,rfl,qW _,qW _,rfl⟩ e;have h:=Qm1 b _ _ _ _ A.ok;rw[Qm2 lv]at h;rw[h];unfold jV;congr 1;exact AB λn _=>by rw[A.st.w n]
end Go.Fg.X
