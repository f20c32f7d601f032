/- Contracts and laws on the way to the statement. No conditions. -/
import Derived.Test.YtpafochnmfelfaaGreatFgExecG
import Derived.OrdersHeld
set_option maxRecDepth 100000
set_option maxHeartbeats 16000000
set_option linter.unusedVariables false
set_option linter.unusedSimpArgs false
set_option linter.unusedSectionVars false
set_option linter.defProp false
namespace Go.Fg
open Go.RowKit (Below)
variable {Z:Nat->Prop}
mutual
def D.shift(k:Nat):D->D
 | .ref l g b c=>.ref (k+l) g b c
 | .ptr l g i j=>.ptr (k+l) g i j
 | .mref l g=>.mref (k+l) g
 | .clo f e a=>.clo f e (xv k a)
 | .agg a=>.agg (xv k a)
 | .tup a=>.tup (xv k a)
 | d=>d
def xv(k:Nat):List D->List D
 | []=>[]
 | c::a=>c.shift k::xv k a
end
def Ob.shift(k:Nat)(o:Ob):Ob:={ o with row:=λi=>xv k (o.row i) }
def vU(k):∀a:List D,(xv k a).length=a.length
 | []=>rfl
 | _::a=>by simp[xv,vU k a]
def Fz(k):∀(a:List D) (i:Nat),i<a.length->nth (xv k a) i=(nth a i).shift k
 | [],i,h=>by simp at h
 | c::a,0,_=>by simp[xv,nth]
 | c::a,i+1,h=>by
  have:=Fz k a i (by simpa using h);simpa[xv,nth] using this
def Qy.join{M}{h h':List Ob}{B t:List Pl}{w}(m:B.length=h.length)(S:∀b,free M t b->free Z (B++t) b){d}{v}(r:Qy M h' t w d v):
  Qy Z (h++h'.map (Ob.shift h.length)) (B++t) w (d.shift h.length) v:=by
 have K:∀(l:Nat) (o:Ob),h'[l]? = some o->(h++h'.map (Ob.shift h.length))[h.length+l]? = some (o.shift h.length):=λl o e=>by
  rw[JE ω];simp[e]
 have L:∀(l:Nat) (p:Pl),t[l]? = some p->(B++t)[h.length+l]? = some p:=λl p e=>by
  rw[JE ω,m];simp[e]
 have V:∀(d:D) (v:Value),Cl (free M t) w d v->Qy Z (h++h'.map (Ob.shift h.length)) (B++t) w (d.shift h.length) v:=by
  intro d v u;have Q:=u.mono (N':=free Z (B++t)) (w':=w) (λb T _=>⟨S b T,rfl⟩);clear u;induction Q with
  | raw v=>exact .cl _ _ (.raw v)
  | undef v=>exact .cl _ _ (.undef v)
  | nil a=>exact .cl _ _ (.nil a)
  | imm R n N a y b o k U m x u s q=>exact .cl _ _ (.imm R n N a y b o k U m x u s)
  | ip z b o k u s q=>exact .cl _ _ (.ip z b o k u s)
  | clo f J I k m s q=>exact .clo f J _ k (by rw[vU];exact m) (λi c=>by rw[vU]at c;rw[Fz _ _ _ c];exact q i c)
  | agg I k m s q=>exact .agg _ k (by rw[vU];exact m) (λi c=>by rw[vU]at c;rw[Fz _ _ _ c];exact q i c)
  | tup I k m s q=>exact .tup _ k (by rw[vU];exact m) (λi c=>by rw[vU]at c;rw[Fz _ _ _ c];exact q i c)
 induction r with
 | cl d v u=>exact V d v u
 | ref l g O P o p a y E C F H x=>exact .ref _ g O P _ p a y (K l o E) (L l p C) F H x
 | ptr l g i j o p a E C F H x=>exact .ptr _ g i j _ p a (K l o E) (L l p C) F H x
 | mref l g o p b E C F H x=>exact .mref _ g _ p b (K l o E) (L l p C) F H x
 | clo f J I k m s q=>exact .clo f J _ k (by rw[vU];exact m) (λi c=>by rw[vU]at c;rw[Fz _ _ _ c];exact q i c)
 | agg I k m s q=>exact .agg _ k (by rw[vU];exact m) (λi c=>by rw[vU]at c;rw[Fz _ _ _ c];exact q i c)
 | tup I k m s q=>exact .tup _ k (by rw[vU];exact m) (λi c=>by rw[vU]at c;rw[Fz _ _ _ c];exact q i c)
def Tr.join{a}{h h'}{d k:List Pl}{w i:World}(R:Zg Z a h d w)(j:Below w.heap.size w i)(s:∀(l b q:Nat),k[l]? = some (some (b,q))->w.heap.size<=b):
  Tr h d w (h++h') (d++k) i where
 Kg:=λb r Qc=>by
  refine⟨λl q e=>?_,j.block b Qc⟩;by_cases n:l<d.length
  .rw[JD n]at e;exact r l q e
  .rw[JE ω]at e;have:=s _ _ _ e;omega
 obj:=λl o p g f=>⟨o,p,by rw[JD (Kh g)];exact g,by rw[JD (VM f)];exact f,QB _,rfl,λ_=>⟨rfl,rfl⟩⟩
 shape:=λl o t b q g v u f c el m=>⟨c,by rw[j.block b (R.lt f).1];exact m,rfl⟩
def Zg.join{C}{d}{h h'}{k m}{w s:World}(R:Zg Z d h k w)(K:d<=w.heap.size)(y:Below w.heap.size w s)(p:Zg C w.heap.size h' m s)
  (H:∀b,free C m b->free Z (k++m) b) (r:∀(l b q:Nat),m[l]? = some (some (b,q))->w.heap.size<=b):Zg Z d (h++h'.map (Ob.shift h.length)) (k++m) s:=by
 have T:=Tr.join (h':=h'.map (Ob.shift h.length)) R y r;refine⟨by simp[R.len,p.len],?_,?_,?_⟩
 .intro l E b q I g f;by_cases e:l<k.length<;>by_cases z:E<k.length
  .rw[JD e]at g;rw[JD z]at f;exact R.inj _ _ _ _ _ g f
  .rw[JD e]at g;rw[JE ω]at f;have:=(R.lt g).1;have:=r _ _ _ f;omega
  .rw[JE ω]at g;rw[JD z]at f;have:=(R.lt f).1;have:=r _ _ _ g;omega
  .rw[JE ω]at g f;have:=p.inj _ _ _ _ _ g f;omega
 .intro l o c a;by_cases e:l<h.length
  .rw[JD e]at c;rw[JD (by rw[R.len];exact e)]at a;exact R.Vh l o c a
  .rw[JE ω]at c;rw[JE (by rw[R.len];omega),R.len]at a;simp only[Kl,Xq]at c;obtain⟨n,u,rfl⟩:=c;exact p.Vh _ n u a
 .intro l o b q c a;by_cases e:l<h.length
  .rw[JD e]at c;rw[JD (by rw[R.len];exact e)]at a;obtain⟨B,x⟩:=R.at_ l o b q c a;exact⟨B,x.to rfl rfl rfl (y.block b (R.lt a).1) (λ_ _=>rfl) λi j v _ _ t=>t.tr T⟩
  .rw[JE ω]at c;rw[JE (by rw[R.len];omega),R.len]at a;simp only[Kl,Xq]at c;obtain⟨n,u,rfl⟩:=c;obtain⟨B,x⟩:=p.at_ _ n b q u a;refine⟨λ_=>by have:=r _ _ _ a;omega,x.to rfl rfl rfl rfl (λi _=>vU _ _) λi j v J F t=>?_⟩;show Qy Z _ _ _ (nth (xv _ (n.row i)) j) v;rw[Fz _ _ _ F];exact t.join R.len H
def QI(P:Program)(f:FuncId)(F:List Ob)(c:List D)(R:D->List Ob->Prop):Prop:=
 ∀(Z:Nat->Prop) (a:Nat) (w:World) (k:List Pl) (j:List Value),a<=w.heap.size->(∀b,w.heap.size<=b->Z b)->Zg Z a F k w ->
  j.length=c.length->(∀i,i<c.length->Qy Z F k w (nth c i) (QY j i)) ->
  Calls P f j.toArray w λe g=>∃v d h l,e=.returned v/\R d h/\Zg Z a h l g/\Qy Z h l g d v/\Tr F k w h l g/\Below a w g
def QI.mono{P}{f}{F}{a}{R c}(h:QI P f F a R)(l:∀d h,R d h->c d h):QI P f F a c:=λZ b w g e r q p o n=>
 (h Z b w g e r q p o n).mono λ_ _ ⟨v,d,m,s,k,j,i⟩=>⟨v,d,m,s,k,l _ _ j,i⟩
def Q6(P:Program)(f:FuncId)(a:List D)(R:D->List Ob->Prop):Prop:=QI P f [] a R
def Q6.mono{P}{f}{a}{R b}(h:Q6 P f a R)(c:∀d h,R d h->b d h):Q6 P f a b:=QI.mono h c
def jE:List D->Nat->List (Nat × D)
 | [],_=>[]
 | d::r,i=>(i,d)::jE r (i+1)
def uz:∀(a:List D) (i t:Nat),get (jE a i) t=if i<=t then nth a (t - i) else .undef
 | [],i,t=>by simp[jE,get,nth]
 | d::r,i,t=>by
  simp only[jE,get];by_cases h:i=t
  .subst h;simp[nth]
  .have:Nat.beq i t=false:=by rw[<- XY,VL];exact h
   rw[this];simp only[q5];rw[uz r (i+1) t];by_cases b:i+1<=t
   .rw[Qf b,Qf ω];obtain⟨m,rfl⟩:∃m,t=i+(m+1):=⟨t - i - 1,ω⟩;rw[show i+(m+1) - (i+1)=m by omega,show i+(m+1) - i=m+1 by omega];simp[nth]
   .rw[Qe b,Qe ω]
def Dy(L:ZW)(s:St):List ResultVar->Option (Prop × List D)
 | []=>some (True,[])
 | .tmp t::r=>match Dy L s r with
  | some (p,b)=>some (p,get s.fr t::b)
  | none=>none
 | .cell a ty::r=>match Hc L s.h ty (get s.fr a),Dy L s r with
  | some (q,d),some (p,b)=>some (q/\p,d::b)
  | _,_=>none
def one:List D->D
 | [d]=>d
 | a=>.tup a
def AK(L:ZW)(a:List ResultVar)(R:D->List Ob->Prop):Exit->St->Prop
 | .normal,s | .ret,s=>match Dy L s a with
  | some (p,b)=>p/\R (one b) s.h
  | none=>False
 | _,_=>False
def LR(a:Array Value):ResultVar->Sem Value
 | .tmp t=>pure (a.getD t Go.undef)
 | .cell x t=>do loadVar t (<- asAddr (a.getD x Go.undef))
def gI(c:Func)(a):results c a=(do let b <- c.results.mapM (LR a);pure (if h:b.size=1 then b[0] else .tuple b)):=by
 unfold results;congr 2
def gJ{P}{L}(C:ZU P L){c J}{s}{y}{a}{w}(r:Rel Z c J s y a w):∀(g:List ResultVar) (p:Prop) (f:List D),Dy L s g=some (p,f)->p ->
  ∃e:List Value,e.length=f.length/\(∀i,i<f.length->Qy Z s.h y w (nth f i) (QY e i)) /\
   (g.mapM (LR a.tmps)).run P w=.ok e w
 | [],p,f,h,_=>by simp[Dy]at h;obtain⟨_,rfl⟩:=h;exact⟨[],rfl,λi l=>by simp at l,σ⟩
 | .tmp t::g,p,f,h,m=>by
  simp only[Dy]at h;split at h
  .rename_i q I z;simp only[QX,Q9]at h;obtain⟨rfl,rfl⟩:=h;obtain⟨e,H,F,E⟩:=gJ C r g _ _ z m;refine⟨a.tmps.getD t Go.undef::e,by simp[H],λi l=>?_,by simp[List.mapM_cons,LR,E]⟩;cases i with
   | zero=>exact r.fr t
   | succ i=>have:=F i (by simpa using l);simpa[nth,QY] using this
  .cases h
 | .cell x t::g,p,f,h,m=>by
  simp only[Dy]at h;split at h
  .rename_i q d S I j z;simp only[QX,Q9]at h;obtain⟨rfl,rfl⟩:=h;obtain⟨e,H,F,E⟩:=gJ C r g _ _ z m.2;have O := tt (P := P) (base := c) (nt := J) (s := s) (o := ⟨none, .load t (.tmp x), 0, "", #[], none⟩) C (t := t) (x := .tmp x) rfl j m.1;obtain⟨v,k,b⟩:=O Z y a w r;have b:=b w (λ_ _=>rfl);refine⟨v::e,by simp[H],λi l=>?_,?_⟩
   .cases i with
    | zero=>exact k
    | succ i=>have:=F i (by simpa using l);simpa[nth,QY] using this
   .have hx:=r.fr x;have R:(LR a.tmps (.cell x t)).run P w=.ok v w:=by
     simp only[execOp,Act.eval,Instr.loadAt,Sem.run_bind]at b;simp only[LR];have Q:∃n,a.tmps.getD x Go.undef=.pointer (some n):=by
      unfold Hc at j;split at j
      .cases j
      .split at j
       .rename_i B;rw[B]at hx;obtain⟨_,_,n,k,_⟩:=Dp hx;exact⟨_,k⟩
       .rename_i B;rw[B]at hx;obtain⟨_,_,_,k,_⟩:=Hb hx;exact⟨_,k⟩
       .cases j
     obtain⟨n,N⟩:=Q;rw[N]at b ⊢;simp only[Instr.sureAddr,asAddr,Sem.run_bind,Sem.run_pure,Result.andThen_ok]at b ⊢;generalize (loadVar t n).run P w=M at *;cases M with
     | ok u K=>simp only[Result.andThen_ok]at b;cases b;rfl
     | halt x K=>simp only[Result.andThen_halt]at b;cases b
    simp[List.mapM_cons,R,E]
  .cases h
def QjZ{P:Program}{L}(W:ZU P L){f}{j:Func}{c}(S:P.funcs[f]? = some j)(U:j.body=some c){F}{b:List D}{R}(hn:b.length<=j.ntmps)
  (h:∀(a:Nat) (w:World) (n:List Pl),a<=w.heap.size->n.length=F.length->A P a j.ntmps ⟨w,F,n⟩ c (AK L j.results.toList R) ⟨jE b 0,F⟩):QI P f F b R:=by
 intro Z a w n o QU V I hl T;refine calls_of_wp S U ?_;have Uh:Rel Z a j.ntmps ⟨jE b 0,F⟩ n { tmps:=o.toArray++Array.replicate (j.ntmps - o.toArray.size) Go.undef,defers:=[] } w:=by
  refine⟨ξ,rfl,λt=>?_,I⟩;rw[uz];simp only[KF,Va,Fb];by_cases M:t<b.length
  .have:=T t M;have e:(o.toArray++Array.replicate (j.ntmps - o.toArray.size) Go.undef).getD t Go.undef=QY o t:=by
    rw[w9,Ll ξ];simp[QY,Q5]
   rw[e];exact this
  .have:nth b t=.undef:=by simp[nth,Q5,Dg (Nat.le_of_not_lt M)]
   rw[this];exact .cl _ _ (.undef _)
 refine wp_mono (h a w n QU I.len _ trivial n _ w Uh ⟨Below.refl _ _,Tr.refl _ _ _,Hs.start (w0:=⟨w,F,n⟩) I V⟩) λe J m Q=>?_;obtain⟨x,r,s,y,E,H,_⟩:=Q;have z:(match Dy L x j.results.toList with|some (p,B)=>p/\R (one B) x.h|none=>False)->J.defers=[]/\∃v,(results j J.tmps).run P m=.ok v m /\
   ∃K d h r,Ending.returned v=.returned K/\R d h/\Zg Z a h r m/\Qy Z h r m d K/\Tr F n w h r m/\Below a w m:=by
  intro k;split at k
  .rename_i p B AL;obtain⟨C,g,u,Y⟩:=gJ W y _ _ _ AL k.1;have q:(j.results.mapM (LR J.tmps)).run P m=.ok C.toArray m:=by
    rw[Array.mapM_eq_mapM_toList];simp only[Sem.run_map,Y,Result.andThen_ok]
   refine⟨y.defers,?_⟩;have Jg:C.toArray.size=C.length:=σ;match B,C,g,u,q,k with
   | [d],[v],_,u,q,k=>
    refine⟨v,?_,v,d,x.h,r,rfl,k.2,y.o,u 0 σ,H,E⟩;rw[gI];simp only[Sem.run_bind];rw[q];simp
   | [],[],_,u,q,k=>
    refine⟨.tuple #[],?_,_,_,x.h,r,rfl,k.2,y.o,.tup [] [] rfl (λi O=>by simp at O),H,E⟩;rw[gI];simp only[Sem.run_bind];rw[q];simp
   | d::d2::B,v::N::o,g,u,q,k=>
    refine⟨.tuple (v::N::o).toArray,?_,_,_,x.h,r,rfl,k.2,y.o,.tup _ _ g u,H,E⟩;rw[gI];simp only[Sem.run_bind];rw[q];simp
   | [],_::_,g,_,_,_=>simp at g
   | [_],[],g,_,_,_=>simp at g
   | [_],_::_::_,g,_,_,_=>simp at g
   | _::_::_,[],g,_,_,_=>simp at g
   | _::_::_,[_],g,_,_,_=>simp at g
  .exact k.elim
 cases e with
 | normal=>exact z s
 | ret=>exact z s
 | exit id=>exact s.elim
 | goto l=>exact s.elim
 | panic ch=>exact s.elim
 | outgrown=>exact s.elim
end Go.Fg
namespace Go.Fg
open Go.RowKit (Below)
variable {Z:Nat->Prop}
def D.Yu:D->Bool
 | .raw _ | .nil | .imm _ _ _ | .ip _=>true
 | _=>false
def FA{h}{a}{w}{d:D}{v}(r:Qy Z h a w d v)(b:d.Yu=true):Cl (free Z a) w d v:=by
 cases r with
 | cl _ _ c=>exact c
 | _=>cases b
def X6(f:D->Option (Prop × D)):List D->Option (Prop × List D)
 | []=>some (True,[])
 | d::r=>match f d,X6 f r with
  | some (p,c),some (q,a)=>some (p/\q,c::a)
  | _,_=>none
def VF(h:List Ob):Nat->D->Option (Prop × D)
 | 0,.raw v=>some (True,.raw v)
 | 0,_=>none
 | n+1,d=>match d with
  | .raw v=>some (True,.raw v)
  | .nil=>some (True,.nil)
  | .imm z n r=>some (True,.imm z n r)
  | .ip c=>some (True,.ip c)
  | .ref l g a b=>match h[l]? with
   | some o=>some (g=o.gen/\a+b<=o.n/\∀i,i<b->(o.row (a+i)).all D.Yu=true,.imm o.sz b λi=>o.row (a+i))
   | none=>none
  | .ptr l g i j=>match h[l]? with
   | some o=>match X6 (VF h n) ((o.row i).drop j) with
    | some (p,k)=>some (g=o.gen/\i<o.n/\j<=o.sz/\p,.ip k)
    | none=>none
   | none=>none
  | .agg k=>match X6 (VF h n) k with
   | some (p,e)=>some (p,.agg e)
   | none=>none
  | .clo f m k=>match X6 (VF h n) k with
   | some (p,e)=>some (p,.clo f m e)
   | none=>none
  | _=>none
def Po{f:D->Option (Prop × D)}{C:D->Value->Prop}{r:D->Value->Prop}(m:∀d v p c,r d v->f d=some (p,c)->p->C c v):∀(b:List D) (e:List Value) (p:Prop) (a:List D),e.length=b.length->(∀i,i<b.length->r (nth b i) (QY e i)) ->
  X6 f b=some (p,a)->p->a.length=b.length/\∀i,i<b.length->C (nth a i) (QY e i)
 | [],e,p,a,l,j,h,k=>by simp[X6]at h;obtain⟨_,rfl⟩:=h;exact⟨rfl,λi g=>by simp at g⟩
 | d::b,[],p,a,l,j,h,k=>by simp at l
 | d::b,v::e,p,a,l,j,h,k=>by
  simp only[X6]at h;split at h
  .rename_i n c q w u t;simp only[QX,Q9]at h;obtain⟨rfl,rfl⟩:=h;obtain⟨s,o⟩:=Po m b e q w (by simpa using l) (λi g=>by have:=j (i+1) (by simpa using g);simpa[nth,QY] using this) t k.2;refine⟨by simp[s],λi g=>?_⟩;cases i with
   | zero=>exact m d v n c (j 0 σ) u k.1
   | succ i=>have:=o i (by simpa using g);simpa[nth,QY] using this
  .cases h
def UI{N}{Y}{h}{F:List Pl}{w}(R:Zg Z Y h F w)(UJ:∀b,free Z F b->N b)(V:∀l b q:Nat,F[l]? = some (some (b,q))->N b):∀(n:Nat) (d:D) (v:Value) (p:Prop) (c:D),Qy Z h F w d v->VF h n d=some (p,c)->p->Cl N w c v
 | 0,d,v,p,c,r,e,x=>by
  cases d<;>simp only[VF,reduceCtorEq,QX,Q9]at e;obtain⟨_,rfl⟩:=e;rw[Jh r];exact .raw _
 | n+1,d,v,p,c,r,e,x=>by
  have y:∀{d:D} {v:Value},Cl (free Z F) w d v->Cl N w d v:=λh=>h.mono λb hb _=>⟨UJ b hb,rfl⟩;cases d with
  | raw u=>simp only[VF,QX,Q9]at e;obtain⟨_,rfl⟩:=e;exact y (FA r rfl)
  | nil=>simp only[VF,QX,Q9]at e;obtain⟨_,rfl⟩:=e;exact y (FA r rfl)
  | imm z k a0=>simp only[VF,QX,Q9]at e;obtain⟨_,rfl⟩:=e;exact y (FA r rfl)
  | ip J=>simp only[VF,QX,Q9]at e;obtain⟨_,rfl⟩:=e;exact y (FA r rfl)
  | undef=>simp[VF]at e
  | tup J=>simp[VF]at e
  | ref l g B K=>
   simp only[VF]at e;split at e
   .rename_i o P;simp only[QX,Q9]at e;obtain⟨rfl,rfl⟩:=e;obtain⟨hg,hn,JX⟩:=x;obtain⟨a,a1,t,S⟩:=fQ R r (p:=g=o.gen/\B+K<=o.n) (n:=K) (sz:=o.sz) (rows:=λk=>o.row (B+k)) (by simp[O5,P]) ⟨hg,hn⟩;have BO:∀i j,i<K->j<o.sz->(nth (o.row (B+i)) j).Yu=true:=λi j m I=>by
     have h1:=JX i m;rw[YS]at h1;have h2:j<(o.row (B+i)).length:=by rw[S.len i m];exact I
     refine h1 _ ?_;simp only[nth,Q5,QP h2,KV];exact XK h2
    obtain⟨o',p',ad,kD,hv,U,ZI,ZL,jw,Vx⟩:=BL r;rw[P]at U;cases U;have gL:=S.v;rw[hv]at gL;simp only[Value.slice.injEq,yj]at gL;obtain⟨rfl,rfl⟩:=gL;rw[hv];rcases Vx hg with ⟨h1,h2⟩|⟨b,q,c,el,VY,kC,hb,hc,Q⟩
    .subst h1;exact .imm _ _ _ _ _ 0 0 (λ_ _=>Go.undef) (λh=>ω) ω (λi m=>ω) (λi j m=>ω) (λi j m=>ω)
    .refine .imm _ _ _ _ _ b (q+B*o.sz) t (λ_=>kC) Q S.len (λi j m I=>⟨V l b q (by rw[ZI,VY]),?_⟩) (λi j m I=>?_)
     .obtain⟨b1,q1,hh,Fo⟩:=S.cell i j m I;rw[kC]at hh;simp only[QX,Addr.mk.injEq,and_true]at hh;obtain⟨rfl,rfl⟩:=hh;exact Fo
     .exact y (FA (S.rel i j m I) (BO i j m I))
   .cases e
  | mref l g=>simp[VF]at e
  | ptr l g i j=>
   simp only[VF]at e;split at e
   .rename_i o P;split at e
    .rename_i q J W;simp only[QX,Q9]at e;obtain⟨rfl,rfl⟩:=e;obtain⟨hg,m,I,hq⟩:=x;obtain⟨o',p',ad,hv,U,ZI,ZL,jw,Vx⟩:=Dp r;rw[P]at U;cases U;obtain⟨b,M,rfl,rfl⟩:=Vx hg;obtain⟨QU,xx⟩:=R.at_ l o b M P ZI;obtain⟨c,el,hb,Hf,JS,ZR⟩:=xx.cells ZL;have E:((o.row i).drop j).length=o.sz - j:=by rw[List.length_drop,JS i m]
     let t:List Value:=(List.range (o.sz - j)).map λk=>(c[M+(i*o.sz+(j+k))]?).getD Go.undef;have uA:∀k,k<o.sz - j->QY t k=(c[M+(i*o.sz+(j+k))]?).getD Go.undef:=λk H=>by simp[t,QY,Q5,H]
     obtain⟨k1,O⟩:=Po (r:=λd v=>Qy Z h F w d v) (C:=λd v=>Cl N w d v) (λd v p c s T x=>UI R UJ V n d v p c s T x) _ t q J (by simp[t,E]) (λk H=>by
      rw[E]at H;obtain⟨u,hu,s⟩:=ZR i (j+k) m ω;rw[Fh,uA k H,hu];exact s) W hq
     rw[hv];rw[E]at k1 O;refine .ip _ b _ (λk=>QY t k) (λk H=>⟨V l b M ZI,?_⟩) (λk H=>O k ω);rw[k1]at H;obtain⟨u,hu,s⟩:=ZR i (j+k) m ω;rw[cell_of_row w b _ c el (0,0) hb,uA k H,hu,KV,show M+(i*o.sz+j)+k=M+(i*o.sz+(j+k)) by omega,hu]
    .cases e
   .cases e
  | agg J=>
   simp only[VF]at e;split at e
   .rename_i q L W;simp only[QX,Q9]at e;obtain⟨rfl,rfl⟩:=e;obtain⟨t,rfl,Q,s⟩:=Ha r;obtain⟨k1,O⟩:=Po (r:=λd v=>Qy Z h F w d v) (C:=λd v=>Cl N w d v) (λd v p c s T x=>UI R UJ V n d v p c s T x) J t _ L Q s W x;exact .agg _ _ ω (λi m=>O i ω)
   .cases e
  | clo f nf J=>
   simp only[VF]at e;split at e
   .rename_i q L W;simp only[QX,Q9]at e;obtain⟨rfl,rfl⟩:=e;obtain⟨t,rfl,Q,s⟩:=fB r;obtain⟨k1,O⟩:=Po (r:=λd v=>Qy Z h F w d v) (C:=λd v=>Cl N w d v) (λd v p c s T x=>UI R UJ V n d v p c s T x) J t _ L Q s W x;exact .clo _ _ _ _ ω (λi m=>O i ω)
   .cases e
def Qj0{a}{h}{b}{w}(R:Zg Z a h b w)(n)(d)(v)(p:Prop)(c)(r:Qy Z h b w d v)(e:VF h n d=some (p,c))(f:p):Cl (λ_=>True) w c v:=
 UI R (λ_ _=>trivial) (λ_ _ _ _=>trivial) n d v p c r e f
mutual
def D.flat:D->Bool
 | .raw _ | .nil | .ref _ _ _ _ | .ptr _ _ _ _ | .mref _ _=>true
 | .agg a=>FB a
 | .tup a=>FB a
 | .clo _ _ a=>FB a
 | _=>false
def FB:List D->Bool
 | []=>true
 | d::r=>d.flat&&FB r
end
def FC:∀{b:List D},FB b=true->∀i,i<b.length->(nth b i).flat=true
 | [],_,i,h=>by simp at h
 | d::r,a,i,h=>by
  simp only[FB,ZH]at a;cases i with
  | zero=>exact a.1
  | succ i=>have:=FC a.2 i (by simpa using h);simpa[nth] using this
def Qy.UK{Z'}{h}{B}{w}{d:D}{v}(r:Qy Z h B w d v)(e:d.flat=true):Qy Z' h B w d v:=by
 induction r with
 | cl d v E=>
  have:∀{d:D} {v:Value},Cl (free Z B) w d v->d.flat=true->Qy Z' h B w d v:=by
   intro d v E;induction E with
   | raw v=>exact λ_=>.cl _ _ (.raw v)
   | undef v=>intro e;simp[D.flat]at e
   | nil a=>exact λ_=>.cl _ _ (.nil a)
   | imm=>intro e;simp[D.flat]at e
   | ip=>intro e;simp[D.flat]at e
   | clo f C q k n t m=>exact λe=>.clo f C q k n λi c=>m i c (FC (by simpa[D.flat] using e) i c)
   | agg q k n t m=>exact λe=>.agg q k n λi c=>m i c (FC (by simpa[D.flat] using e) i c)
   | tup q k n t m=>exact λe=>.tup q k n λi c=>m i c (FC (by simpa[D.flat] using e) i c)
  exact this E e
 | ref l g F H o p a I x u y z s=>exact .ref l g F H o p a I x u y z s
 | ptr l g i j o p a x u y z s=>exact .ptr l g i j o p a x u y z s
 | mref l g o p b x u y z s=>exact .mref l g o p b x u y z s
 | clo f C q k n t m=>exact .clo f C q k n λi c=>m i c (FC (by simpa[D.flat] using e) i c)
 | agg q k n t m=>exact .agg q k n λi c=>m i c (FC (by simpa[D.flat] using e) i c)
 | tup q k n t m=>exact .tup q k n λi c=>m i c (FC (by simpa[D.flat] using e) i c)
def Ob.flat(o:Ob):Prop:=∀i,i<o.n->FB (o.row i)=true
def Zg.UK{Z'}{a}{h}{c}{w}(R:Zg Z a h c w)(m:∀o∈h,o.flat):Zg Z' a h c w where
 len:=R.len
 inj:=R.inj
 Vh:=R.Vh
 at_:=λl o b q d f=>by
  obtain⟨n,x⟩:=R.at_ l o b q d f;exact⟨n,x.to rfl rfl rfl rfl (λ_ _=>rfl) λi j v k g e=>e.UK (FC (m o (OJ d) i k) j g)⟩
def Qk(P:Program)(f:FuncId):Prop:=∀(a:Array Value) (w:World),(callFunc f a).run P w=.ok (.enter f a) w
def Jo:D->Option (FuncId × Nat × List D)
 | .raw (.func (.func f) ⟨[]⟩ ⟨[]⟩)=>some (f,0,[])
 | .clo f a b=>some (f,a,b)
 | _=>none
section
variable {P:Program}{base nt:Nat}{w0:Start}{Q:Exit->St->Prop}
def Pq{h}{g}{w}{d}{v}{f}{c}{b}(r:Qy Z h g w d v)(e:Jo d=some (f,c,b)):
  ∃a:List Value,v=.func (.func f) (a.take c).toArray (a.drop c).toArray/\a.length=b.length/\∀i,i<b.length->Qy Z h g w (nth b i) (QY a i):=by
 unfold Jo at e;split at e
 .simp only[QX,Q9]at e;obtain⟨rfl,rfl,rfl⟩:=e;exact⟨[],Jh r,rfl,λi j=>by simp at j⟩
 .simp only[QX,Q9]at e;obtain⟨rfl,rfl,rfl⟩:=e;exact fB r
 .cases e
def ZS{b:Type}(c:Nat)(d a:List b):List b:=d.take c++(a++d.drop c)
def Pr{r:D->Value->Prop}{nf:Nat}{a args:List D}{b us:List Value}(g:b.length=a.length)(f:∀i,i<a.length->r (nth a i) (QY b i))(e:us.length=args.length)(h:∀i,i<args.length->r (nth args i) (QY us i)):
  (ZS nf b us).length=(ZS nf a args).length/\∀i,i<(ZS nf a args).length->r (nth (ZS nf a args) i) (QY (ZS nf b us) i):=by
 refine⟨by simp[ZS,g,e],λi k=>?_⟩;have j:(b.take nf).length=(a.take nf).length:=by simp[g]
 simp only[ZS,nth,QY,Q5];by_cases d:i<(a.take nf).length
 .rw[JD (l₁:=a.take nf) d,JD (l₁:=b.take nf) ω];have c:i<nf/\i<a.length:=by simp at d;omega
  rw[Xc,Xc,Qf c.1,Qf c.1];exact f i c.2
 .rw[JE (l₁:=a.take nf) ω,JE (l₁:=b.take nf) ω,j];by_cases c:i - (a.take nf).length<args.length
  .rw[JD (l₁:=args) c,JD (l₁:=us) ω];exact h _ c
  .rw[JE (l₁:=args) ω,JE (l₁:=us) ω,e];rw[GZ,GZ];refine f _ ?_;simp only[ZS,JJ,Tp,List.length_drop]at k d c ⊢;omega
def Ps{o:Oper}{a:Act}{x}{b}{j:Array TypeId}{f}{d:Nat}{c:List Value}(i:Qk P f)(h:o.op=.call ⟨.value x,b,j⟩)(g:a.eval x=.func (.func f) (c.take d).toArray (c.drop d).toArray)(w):
  (execOp a.eval o).run P w=.ok (.enter f (ZS d c (b.toList.map a.eval)).toArray) w:=by
 have e:(ZS d c (b.toList.map a.eval)).toArray=(c.take d).toArray++b.map a.eval++(c.drop d).toArray:=by apply Array.ext';simp[ZS]
 rw[e];simp[execOp,h,resolve,g,Deferred.ofValue,invoke,i _ w]
def uB(QU:base<=w0.w.heap.size){o:Oper}{s}{x}{g}{Zn:Array TypeId}{f}{u}{V}(hf:Qk P f)(ho:o.op=.call ⟨.value x,g,Zn⟩)
  (hx:Jo (Qo s.fr x)=some (f,u,V)) {n:Nat} {p:Prop} {H:List D} (Jx:X6 (VF s.h n) (ZS u V (g.toList.map (Qo s.fr)))=some (p,H)) (B:p) {R:D->List Ob->Prop} (hF:Q6 P f H R)
  (Ht:∀d h,R d h->d.flat=true/\∀o∈h,o.flat) (N:Zj nt o.dst=true) (k:List Pl) (a:Act) (w:World) (r:Rel Z base nt s k a w) (b:KG Z base w0 s.h k w) (Q':Exit->Act->World->Prop) :
  o.wp P a w (λS m=>Ext w m/\∃d h j,R d h/\Rel Z base nt ⟨Q8 s.fr o.dst (d.shift s.h.length),s.h++h.map (Ob.shift s.h.length)⟩ j S m/\KG Z base w0 (s.h++h.map (Ob.shift s.h.length)) j m/\Tr s.h k w (s.h++h.map (Ob.shift s.h.length)) j m/\∃v,S=a.put o.dst v) Q':=by
 obtain⟨L,hv,zR,Dz⟩:=Pq (r.eval x) hx;have M:base<=w.heap.size:=K9 QU b.1.size;obtain⟨q1,q2⟩:=Pr (r:=λd v=>Qy Z s.h k w d v) (nf:=u) zR Dz (us:=g.toList.map a.eval) (args:=g.toList.map (Qo s.fr)) σ (λi y=>by
  have Ji:i<g.toList.length:=by simpa using y
  simp only[nth,QY,Q5,Kl];rw[QP Ji];exact r.eval _)
 obtain⟨k1,k2⟩:=Po (r:=λd v=>Qy Z s.h k w d v) (C:=λd v=>Cl (λ_=>True) w d v) (λd v p c hr E B=>Qj0 r.o n d v p c hr E B) _ (ZS u L (g.toList.map a.eval)) p H q1 q2 Jx B;have hc:=hF (λ_=>True) w.heap.size w [] (ZS u L (g.toList.map a.eval)) (QB _) (λ_ _=>trivial) ⟨rfl,λl l' b q q' e=>by simp at e,λl o e=>by simp at e,λl o b q e=>by simp at e⟩ ω (λi y=>.cl _ _ ((k2 i ω).mono λb _ _=>⟨⟨trivial,λl q e=>by simp at e⟩,rfl⟩));unfold Oper.wp;rw[Ps hf ho hv w];simp only[Oper.upon_enter];refine hc.mono λe m E=>?_;obtain⟨v,d,F,j,rfl,O,hO,hV,J,z⟩:=E;obtain⟨f1,f2⟩:=Ht d F O;have K:=hO.UK (Z':=λ_=>False) f2;have I:=hV.UK (Z':=λ_=>False) f1;have U:∀b,free (λ_=>False) j b->free Z (k++j) b:=λb hb=>hb.1.elim;have W:∀(l b q:Nat),j[l]? = some (some (b,q))->w.heap.size<=b:=λl b q e=>by
  rcases Ar b w.heap.size with Qc|kO
  .exact absurd e ((J.Kg b (λl q e=>by simp at e) Qc).1 l q)
  .exact kO
 have T:=Tr.join (h':=F.map (Ob.shift s.h.length)) r.o z W;have Y:=Zg.join r.o M z K U W;refine⟨λi y=>z.block i y,d,F,k++j,O,?_,b.step T (z.mono M),T,v,rfl⟩;cases hd:o.dst with
 | none=>exact r.ym T Y v
 | some t=>rw[hd]at N;exact r.to T Y (zQ N) (I.join r.o.len U)
def Qj4(K:base<=w0.w.heap.size){o:Oper}{c}{s}{x}{e}{I:Array TypeId}{f}{g}{j}(B:Qk P f)(v:o.op=.call ⟨.value x,e,I⟩)
  (q:Jo (Qo s.fr x)=some (f,g,j)) {n:Nat} {p:Prop} {i:List D} (L:X6 (VF s.h n) (ZS g j (e.toList.map (Qo s.fr)))=some (p,i)) (u:p) {R:D->List Ob->Prop} (E:Q6 P f i R)
  (M:∀d h,R d h->d.flat=true/\∀o∈h,o.flat) (t:Zj nt o.dst=true) (y:∀d h,R d h->AG P base nt w0 c Q ⟨Q8 s.fr o.dst (d.shift s.h.length),s.h++h.map (Ob.shift s.h.length)⟩):AG P base nt w0 ((o,none)::c) Q s:=by
 intro Z z m a w r b;simp only[X5,WQ,Va];exact Oper.wp_mono (λH k ⟨_,d,h,J,C,l,F,_⟩=>y d h C Z z J H k l F) (uB K B v q L u E M t m a w r b _)
def BY(m:Nat)(h:List Ob)(c:List Pl)(e:List Ob)(d:List Pl):Prop:=
 (∀b,W0 c b->W0 d b)/\∀(l:Nat) (o:Ob) (p:Pl),l<m->h[l]? = some o->c[l]? = some p->∃a,e[l]? = some a/\d[l]? = some p/\a.gen=o.gen/\a.sz=o.sz/\a.kd.ty=o.kd.ty
def BY.refl(m)(h)(a):BY m h a h a:=⟨λ_ h=>h,λ_ o p _ c b=>⟨o,c,b,rfl,rfl,rfl⟩⟩
def BY.trans{m}{h h' e}{c f g}(a:BY m h c h' f)(b:BY m h' f e g):BY m h c e g:=
 ⟨λx hx=>b.1 x (a.1 x hx),λl o p d u t=>by
  obtain⟨j,B,z,y,w,v⟩:=a.2 l o p d u t;obtain⟨i,s,r,q,n,k⟩:=b.2 l j p d B z;exact⟨i,s,r,by rw[q,y],by rw[n,w],by rw[k,v]⟩⟩
def Tr.keep{F h H:List Ob}{r s I}{w0 w}{m}(T:Tr F r w0 h s w)(B:F.length<=m)(K:BY m h s H I):Tr F r w0 H I w where
 Kg:=λb j Qc=>⟨K.1 b (T.Kg b j Qc).1,(T.Kg b j Qc).2⟩
 obj:=λl o p a i=>by
  obtain⟨f,d,k,n,L,E,C⟩:=T.obj l o p a i;obtain⟨t,g,z,J,v,u⟩:=K.2 l f d (kv (Kh a) B) k n;exact⟨t,d,g,z,ω,by rw[u,E],λe=>by obtain⟨x,y⟩:=C ω;exact⟨by rw[v,x],y⟩⟩
 shape:=λl o O b q a M N i c el j=>by
  obtain⟨f,d,k,n,L,E,C⟩:=T.obj l o _ a i;obtain⟨t,g,z,J,v,u⟩:=K.2 l f d (kv (Kh a) B) k n;rw[M]at g;cases g;exact T.shape l o f b q a k ω i c el j
def Wk(m:Nat)(s b:St):Prop:=∀(Z:Nat->Prop) (base nt:Nat) c a w,Rel Z base nt s c a w->∃d,Rel Z base nt b d a w/\BY m s.h c b.h d
def Wk.refl{m}(s):Wk m s s:=λ_ _ _ a _ _ r=>⟨a,r,.refl _ _ _⟩
def Wk.trans{m}{s d e}(h:Wk m s d)(k:Wk m d e):Wk m s e:=λZ b n g a w r=>
 let ⟨i,f,K⟩:=h Z b n g a w r;let ⟨l,c,j⟩:=k Z b n i a w f
 ⟨l,c,K.trans j⟩
def KG.keep{h f}{a g}{w}(b:KG Z base w0 h a w)(K:BY w0.F.length h a f g):KG Z base w0 f g w:=⟨b.1,b.2.1.keep (QB _) K,b.2.2.new,λl c q e n=>by
 by_cases d:W0 a c
 .exact absurd e (K.1 c d l q)
 .obtain⟨j,m⟩:=Lm.1 d;obtain⟨i,k⟩:=Lm.1 m;exact b.2.2.own j c i (Classical.not_not.1 k) n⟩
def QF(w0:Start)(s b:St):Prop:=∀(Z:Nat->Prop),Ph w0 Z->∀(base nt:Nat) c a w,Rel Z base nt s c a w->KG Z base w0 s.h c w->∃d,Rel Z base nt b d a w/\KG Z base w0 b.h d w
def Wk.up{s c}(h:Wk w0.F.length s c):QF w0 s c:=λZ _ base nt e a w r b=>let ⟨f,d,K⟩:=h Z base nt e a w r;⟨f,d,b.keep K⟩
def QF.refl(s):QF w0 s s:=λ_ _ _ _ a _ _ r b=>⟨a,r,b⟩
def QF.trans{s c e}(h:QF w0 s c)(k:QF w0 c e):QF w0 s e:=λZ z d n g a w r b=>
 let ⟨j,f,i⟩:=h Z z d n g a w r b
 k Z z d n j a w f i
def A.Xh{c}{s d}(h:QF w0 s d)(k:A P base nt w0 c Q d):A P base nt w0 c Q s:=λZ z f a w r b=>let ⟨i,e,g⟩:=h Z z base nt f a w r b;k Z z i a w e g
def AG.Xh{l}{s c}(h:QF w0 s c)(k:AG P base nt w0 l Q c):AG P base nt w0 l Q s:=λZ z e a w r b=>let ⟨g,d,f⟩:=h Z z base nt e a w r b;k Z z g a w d f
def FD{c}{k}{s a}(h:QF w0 s a)(b:Qr P base nt w0 Q (.code c::k) .normal a):Qr P base nt w0 Q (.code c::k) .normal s:=by
 simp only[Qr]at b ⊢;exact b.Xh h
def FE(a:List (Nat × D)):List (Nat × D)->Prop
 | []=>True
 | (t,d)::r=>get a t=d/\FE a r
def uD{a}:∀{r:List (Nat × D)},FE a r->∀t d,(t,d)∈r->get a t=d
 | [],_,_,_,h=>by cases h
 | (u,e)::r,h,t,d,b=>by
  rcases QE.1 b with h1|h1
  .cases h1;exact h.1
  .exact uD h.2 t d h1
def Qj6(b)(u):get b u=.undef\/(u,get b u)∈b:=by
 induction b with
 | nil=>exact .inl rfl
 | cons x r a=>
  obtain⟨t,d⟩:=x;simp only[get];by_cases h:t=u
  .subst h;simp
  .have:Nat.beq t u=false:=by rw[<- XY,VL];exact h
   rw[this];rcases a with a|a
   .exact .inl (by simpa using a)
   .exact .inr (by simp[a])
def Wk.frame{m}{c fr'}{h}(d:FE c fr'):Wk m ⟨c,h⟩ ⟨fr',h⟩:=λZ base nt b a w r=>
 ⟨b,⟨r.nt,r.defers,λt=>by
  rcases Qj6 fr' t with h1|h1
  .show Qy Z h b w (get fr' t) _;rw[h1];exact .cl _ _ (.undef _)
  .have:=uD d _ _ h1;show Qy Z h b w (get fr' t) _;rw[<- this];exact r.fr t,r.o⟩,.refl _ _ _⟩
def Kd.Pt(k a:Kd):Prop:=k.ty=a.ty/\k.ro=a.ro
def LS(o a:Ob):Prop:=a.gen=o.gen/\a.sz=o.sz/\a.n=o.n/\a.kd.Pt o.kd/\∀i,i<o.n->a.row i=o.row i
def AM:List Ob->List Ob->Prop
 | [],[]=>True
 | o::r,b::a=>LS o b/\AM r a
 | _,_=>False
def UL:∀{h b:List Ob},AM h b->b.length=h.length/\∀(l:Nat) (a:Ob),b[l]? = some a->∃o,h[l]? = some o/\LS o a
 | [],[],_=>⟨rfl,λl a e=>by simp at e⟩
 | [],_::_,h=>h.elim
 | _::_,[],h=>h.elim
 | o::r,a::i,h=>by
  obtain⟨g,f⟩:=UL h.2;refine⟨by simp[g],λl u e=>?_⟩;cases l with
  | zero=>simp at e;subst e;exact⟨o,rfl,h.1⟩
  | succ l=>simp at e;obtain⟨v,d,c⟩:=f l u e;exact⟨v,by simpa using d,c⟩
def Qy.FF{h E}{J}{w}(n:AM h E){d}{v}(r:Qy Z h J w d v):Qy Z E J w d v:=by
 obtain⟨O,N⟩:=UL n;have q:∀(l:Nat) (o:Ob),h[l]? = some o->∃k,E[l]? = some k/\LS o k:=λl o e=>by
  have:l<E.length:=by rw[O];exact Kh e
  obtain⟨R,m,c⟩:=N l _ (QP this);rw[e]at m;cases m;exact⟨_,QP this,c⟩
 induction r with
 | cl d v M=>exact .cl d v M
 | ref l g F H o p a I y x z B u=>
  obtain⟨k,m,c⟩:=q l o y;exact .ref l g F H k p a I m x (by rw[c.2.2.2.1.1];exact z) (by rw[c.1];exact B) (λe=>by rw[c.2.1];exact u (by rw[e,c.1]))
 | ptr l g i j o p a y x z B u=>
  obtain⟨k,m,c⟩:=q l o y;exact .ptr l g i j k p a m x (by rw[c.2.2.2.1.1];exact z) (by rw[c.1];exact B) (λe=>by rw[c.2.1];exact u (by rw[e,c.1]))
 | mref l g o p b y x z B u=>
  obtain⟨k,m,c⟩:=q l o y;exact .mref l g k p b m x (by rw[c.2.2.2.1.1];exact z) (by rw[c.1];exact B) (λe=>u (by rw[e,c.1]))
 | clo f L C s n K t=>exact .clo f L C s n t
 | agg C s n K t=>exact .agg C s n t
 | tup C s n K t=>exact .tup C s n t
def Wk.FF{m}{fr}{h y}(n:AM h y):Wk m ⟨fr,h⟩ ⟨fr,y⟩:=λZ base nt E a w r=>by
 obtain⟨C,u⟩:=UL n;refine⟨E,⟨r.nt,r.defers,λt=>(r.fr t).FF n,⟨by rw[C];exact r.o.len,r.o.inj,λl g c f=>?_,λl g b q c f=>?_⟩⟩,λ_ h=>h,λl o p _ c f=>?_⟩
 .obtain⟨o,e,d⟩:=u l g c;rw[d.2.2.1];exact r.o.Vh l o e f
 .obtain⟨o,e,d,H,F,z,B⟩:=u l g c;obtain⟨I,x⟩:=r.o.at_ l o b q e f;exact⟨λk=>I (by rw[<- z.2,k]),x.to z.1 H F rfl (λi s=>by rw[B i s]) λi j v s _ k=>by rw[B i s];exact k.FF n⟩
 .have Qc:l<y.length:=by rw[C];exact Kh c
  obtain⟨J,e,d⟩:=u l _ (QP Qc);have c:h[l]? = some o:=c;rw[c]at e;cases e;exact⟨_,QP Qc,f,d.1,d.2.1,d.2.2.2.1.1⟩
mutual
def D.upto(k:Nat):D->Bool
 | .ref l _ _ _=>Nat.blt l k
 | .ptr l _ _ _=>Nat.blt l k
 | .mref l _=>Nat.blt l k
 | .clo _ _ a=>AN k a
 | .agg a=>AN k a
 | .tup a=>AN k a
 | _=>true
def AN(k:Nat):List D->Bool
 | []=>true
 | d::r=>d.upto k&&AN k r
end
def LU{k}:∀{b:List D},AN k b=true->∀i,i<b.length->(nth b i).upto k=true
 | [],_,i,h=>by simp at h
 | d::r,a,i,h=>by
  simp only[AN,ZH]at a;cases i with
  | zero=>exact a.1
  | succ i=>have:=LU a.2 i (by simpa using h);simpa[nth] using this
def Qy.take{h:List Ob}{E:List Pl}{w}{k}{d:D}{v}(r:Qy Z h E w d v)(m:d.upto k=true):Qy Z (h.take k) (E.take k) w d v:=by
 have N:∀b,free Z E b->free Z (E.take k) b:=λb F=>⟨F.1,λl q e=>by
  rw[Xc]at e;split at e
  .exact F.2 l q e
  .cases e⟩
 induction r with
 | cl d v M=>exact .cl d v (M.mono λb F _=>⟨N b F,rfl⟩)
 | ref l g H I o p a J x u y B t=>
  have:l<k:=by simpa[D.upto,vJ] using m
  exact .ref l g H I o p a J (by rw[Xc,Qf this];exact x) (by rw[Xc,Qf this];exact u) y B t
 | ptr l g i j o p a x u y B t=>
  have:l<k:=by simpa[D.upto,vJ] using m
  exact .ptr l g i j o p a (by rw[Xc,Qf this];exact x) (by rw[Xc,Qf this];exact u) y B t
 | mref l g o p b x u y B t=>
  have:l<k:=by simpa[D.upto,vJ] using m
  exact .mref l g o p b (by rw[Xc,Qf this];exact x) (by rw[Xc,Qf this];exact u) y B t
 | clo f L C n z K s=>exact .clo f L C n z λi c=>s i c (LU (by simpa[D.upto] using m) i c)
 | agg C n z K s=>exact .agg C n z λi c=>s i c (LU (by simpa[D.upto] using m) i c)
 | tup C n z K s=>exact .tup C n z λi c=>s i c (LU (by simpa[D.upto] using m) i c)
def Hw(k:Nat):List (Nat × D)->Bool
 | []=>true
 | (_,d)::r=>d.upto k&&Hw k r
def uE{k}:∀{a:List (Nat × D)},Hw k a=true->∀t,(get a t).upto k=true
 | [],_,t=>rfl
 | (u,d)::r,h,t=>by
  simp only[Hw,ZH]at h;simp only[get];cases Nat.beq u t
  .exact uE h.2 t
  .exact h.1
def BZ(k:Nat):List Ob->Prop
 | []=>True
 | o::r=>(∀i,i<o.n->AN k (o.row i)=true)/\BZ k r
def gM{k}:∀{h:List Ob},BZ k h->∀(l:Nat) (o:Ob),h[l]? = some o->∀i,i<o.n->AN k (o.row i)=true
 | [],_,l,o,e=>by simp at e
 | o::r,h,l,u,e=>by
  cases l with
  | zero=>simp at e;subst e;exact h.1
  | succ l=>simp at e;exact gM h.2 l u e
def Wk.drop{m}(k)(K:m<=k){g}{h:List Ob}(F:Hw k g=true)(E:BZ k (h.take k)):Wk m ⟨g,h⟩ ⟨g,h.take k⟩:=λZ base nt pl a w r=>by
 have f:∀(l:Nat) (p:Pl),(pl.take k)[l]? = some p->pl[l]? = some p:=λl p e=>by
  rw[Xc]at e;split at e
  .exact e
  .cases e
 have n:∀(l:Nat) (o:Ob),(h.take k)[l]? = some o->h[l]? = some o:=λl o e=>by
  rw[Xc]at e;split at e
  .exact e
  .cases e
 refine⟨pl.take k,⟨r.nt,r.defers,λt=>(r.fr t).take (uE F t),⟨by simp[r.o.len],λl u b q s J I=>r.o.inj l u b q s (f _ _ J) (f _ _ I),λl o c d=>r.o.Vh l o (n _ _ c) (f _ _ d),λl o b q c d=>?_⟩⟩,
  λb C l q e=>C l q (f _ _ e),λl o p L c d=>⟨o,by show (h.take k)[l]? = _;rw[Xc,Qf ω];exact c,by rw[Xc,Qf ω];exact d,rfl,rfl,rfl⟩⟩
 obtain⟨H,x⟩:=r.o.at_ l o b q (n _ _ c) (f _ _ d);exact⟨H,x.to rfl rfl rfl rfl (λ_ _=>rfl) λi j v B z y=>y.take (LU (gM E l o c i B) j z)⟩
def Wk.BH{m}{f}{h:List Ob}(t g)(c)(k:get f t=.nil):Wk m ⟨f,h⟩ ⟨put f t (.ref h.length 0 0 0),h++[⟨.arr,0,g,0,c⟩]⟩:=λZ base nt d a w r=>by
 have T:Tr h d w (h++[⟨.arr,0,g,0,c⟩]) (d++[none]) w:=Tr.push r.o (λ_ _=>rfl) _ _ (by intro b q e;cases e);refine⟨d++[none],⟨r.nt,r.defers,λu=>?_,r.o.BH _ rfl⟩,λb v=>OU v (λq e=>by cases e),λl o p _ s n=>⟨o,xl s,xl n,rfl,rfl,rfl⟩⟩;show Qy Z _ _ w (get (put f t (.ref h.length 0 0 0)) u) _;rw[Dm];by_cases i:u=t
 .subst i;rw[Qf rfl];have:=r.fr u;have this:Qy Z h d w (get f u) (a.tmps.getD u Go.undef):=this;rw[k]at this;obtain⟨x,j⟩:=BK this;rw[j];have y:d.length=h.length:=r.o.len;exact .ref _ _ _ _ ⟨.arr,0,g,0,c⟩ none x 0 σ (by rw[<- y];simp) rfl (QB _) (λ_=>.inl ⟨rfl,rfl⟩)
 .rw[Qe i];exact(r.fr u).tr T
def UM(P:Program)(base nt:Nat)(w0:Start)(Q:Exit->St->Prop)(k:List Item)(I:Nat->St->Prop)(m:Nat):Exit->St->Prop
 | .normal,s=>∃b a,b<m/\QF w0 s a/\I b a
 | e,s=>Qr P base nt w0 Q k e s
def Qj7{p:Nat->Prop}:∀n,p n->∃m,p m/\∀k,p k->m<=k:=by
 intro n;induction n using Nat.strongRecOn with
 | _ n b=>
  intro d;by_cases h:∃k,k<n/\p k
  .obtain⟨k,a,c⟩:=h;exact b k a c
  .exact⟨n,d,λk a=>Nat.le_of_not_lt λQc=>h ⟨k,Qc,a⟩⟩
def UN{p:Nat->Prop}(h:∃n,p n):∃m,p m/\∀k,p k->m<=k:=let ⟨n,a⟩:=h;Qj7 n a
open Classical in
def LV{c}{k}{s s0}(I)(K)(R:QF w0 s s0)(V:I K s0)(d:∀m s,I m s->Qr P base nt w0 (UM P base nt w0 Q k I m) [.code c] .normal s):Qr P base nt w0 Q (.code (.loop c)::k) .normal s:=by
 simp only[Qr];refine A.Xh R ?_;intro Z z u a w r b;let J:Nat->Act->World->Prop:=λm a w=>∃s u,I m s/\Rel Z base nt s u a w/\KG Z base w0 s.h u w;let o:Act->World->Nat:=λa w=>if h:∃m,J m a w then Classical.choose (UN h) else 0;refine wp_loop (λa w=>∃m,J m a w) o ⟨K,s0,u,V,r,b⟩ λa w y=>?_;have S:=(Classical.choose_spec (UN y)).1;have E:o a w=Classical.choose (UN y):=by simp only[o];rw[dif_pos y]
 obtain⟨M,C,U,O,Y⟩:=S;have:=d _ M U;simp only[Qr]at this;refine wp_mono (this Z z C a w O Y) λe v t T=>?_;obtain⟨q,n,i,f,j⟩:=T;cases e with
 | normal=>
  obtain⟨g,L,Qc,F,H⟩:=i;obtain⟨B,N,W⟩:=F Z z base nt n v t f j;have x:J g v t:=⟨L,B,H,N,W⟩;refine⟨⟨g,x⟩,?_⟩;rw[E];have:o v t<=g:=by simp only[o];rw[dif_pos ⟨g,x⟩];exact(Classical.choose_spec (UN (p:=λm=>J m v t) ⟨g,x⟩)).2 g x
  omega
 | exit id=>exact⟨q,n,i,f,j⟩
 | goto l=>exact⟨q,n,i,f,j⟩
 | ret=>exact⟨q,n,i,f,j⟩
 | panic ch=>exact⟨q,n,i,f,j⟩
 | outgrown=>exact⟨q,n,i,f,j⟩
end
end Go.Fg
namespace Go.Fg
def Qkc{P}{a d}{b}{Q}{c}{s}(h:Qr P a d b Q [.code c] .normal s):A P a d b c Q s:=by
 simp only[Qr]at h;exact h.mono λe g f=>by cases e<;>exact f
def uF{P:Program}{X}(j:qE P X){f}{i:Func}{c}(n)(o:P.funcs[f]? = some i)(p:i.body=some c){F}{b:List D}{R}{g}(k:i.ntmps=g)(m:b.length<=g)
  (h:∀(a:Nat) (w:World) (e:List Pl),a<=w.heap.size->e.length=F.length->(exec X g n [.code c] ⟨jE b 0,F⟩).holds P a g ⟨w,F,e⟩ (AK X.L i.results.toList R)):QI P f F b R:=
 QjZ j.L o p (by rw[k];exact m) λa w e l d=>Qkc (by rw[k];exact jD j l n _ _ (h a w e l d))
end Go.Fg
namespace Go.Fg
open Go.RowKit (Below)
variable {Z:Nat->Prop}
inductive AO (ops:Array Oper) (Zr:Array Bool) (i:Nat):Nat->Prop
 | Pu (j:Nat) (oj:Oper) (e:Edge) (hj:ops[j]? = some oj) (he:e∈oj.after) (hb:Region.binds .any e=true) (h:e.on=i):AO ops Zr i j
 | step (j:Nat) (oj:Oper) (e:Edge) (hj:ops[j]? = some oj) (he:e∈oj.after) (hb:Region.binds .any e=true) (hu:Zr.getD e.on true=false) (h:AO ops Zr i e.on):AO ops Zr i j
def both{b:Array Bool}{i}(h:b.getD i true=false):b.getD i false=false:=by
 rcases Ar i b.size with a|a
 .simp[a]at h ⊢;exact h
 .simp[Array.getElem?_eq_none a]at h
def AO.uG{a}{g:Array Bool}{i j}(h:AO a g i j)(o:g.getD i true=false):j ∉ Region.ready .any a g:=by
 intro n;obtain⟨_,p,b,k⟩:=mem_ready.1 n;cases h with
 | Pu _ l e c d f h=>
  rw[c]at b;cases b;have:=k e d f;rw[h,both o]at this;cases this
 | step _ l e c d f m h=>
  rw[c]at b;cases b;have:=k e d f;rw[both m]at this;cases this
def AO.set{a}{b:Array Bool}{i j k}(h:AO a b i j)(p:b.getD i true=false)(o:k∈Region.ready .any a b):AO a (b.setIfInBounds k true) i j:=by
 induction h with
 | Pu j c e d f g h=>exact .Pu j c e d f g h
 | step j c e d f g n h m=>
  refine .step j c e d f g ?_ m;have:k≠e.on:=λl=>by subst l;exact h.uG p o
  rw[getD_set_ne true this];exact n
def yE(P:Program)(b:Array Oper)(N:Act->World->Prop)(e:Nat->World->World->Prop):Nat->Array Bool->Act->World->Prop
 | 0,c,a,w=>Region.ready .any b c=[]/\N a w
 | n+1,c,a,w=>(Region.ready .any b c=[]->N a w) /\
  ∀i∈Region.ready .any b c,wpOp P b (λ_ _ _=>False) i (λf d=>e i w d/\yE P b N e n (c.setIfInBounds i true) f d) a w
def Qke{P}{o:Oper}{a}{w}{K}{Q}(h:o.wp P a w K (λ_ _ _=>False)):o.wp P a w K Q:=by
 unfold Oper.wp at *;generalize (execOp a.eval o).run P w=r at *;cases r with
 | ok n c=>
  cases n<;>simp only[Oper.upon]at h ⊢<;>first|exact h|skip
  .exact Calls.mono h λe d b=>by cases e<;>first|exact b|exact b.elim|exact(let ⟨_,_,h⟩:=b;h.elim)
 | halt x c=>cases x<;>simp only[Oper.upon]at h ⊢<;>exact h.elim
def UP{P}{c}{N}{p}{Q}(b:∀a w,N a w->Q .normal a w):∀(n:Nat) (g:Array Bool) (a:Act) (w:World),yE P c N p n g a w->wpAny P .any c Q n g a w
 | 0,_,_,_,h=>⟨h.1,b _ _ h.2⟩
 | n+1,g,a,w,h=>⟨λe=>b _ _ (h.1 e),λi j=>by
  have:=h.2 i j;unfold wpOp at this ⊢;split
  .rename_i f;simp only[f]at this;exact UP b n _ _ _ this.2
  .rename_i o f;simp only[f]at this;split
   .rename_i d;simp only[d,Va]at this;rcases this with l|⟨_,_,_,k⟩
    .exact .inl (Qke (Oper.wp_mono (λr q m=>UP b n _ _ _ m.2) l))
    .exact k.elim
   .rename_i d;simp only[d]at this;exact UP b n _ _ _ this.2⟩
def still(L:ZW)(o:Oper):Bool:=match o.op with
 | .extract ..=>true
 | .move _=>true
 | .nilCheck _=>true
 | .fieldAddr t _ f=>match LD L t f with
  | some (_,y)=>!Nat.beq y.size 0
  | none=>false
 | _=>false
def Qkf{P}{L}(p:ZU P L){o:Oper}(c:still L o=true){d}{w}{v}(h:(execOp d o).run P w=.ok (.value v) w)(j):(execOp d o).run P j=.ok (.value v) j:=by
 unfold still at c;split at c
 .rename_i x i b;simp only[execOp,b,Instr.extract]at h ⊢;split at h<;>first|skip|(simp at h)
  all_goals (first|(split at h<;>first|(simp at h)|skip)|skip)
  all_goals (first|(simp at h ⊢;exact h)|simp_all)
 .rename_i x b;simp only[execOp,b]at h ⊢;simp at h ⊢;exact h
 .rename_i x b;exact((KW.nilCheck b d) w _ w h).2 j
 .rename_i t x f b;split at c
  .rename_i s y n;obtain⟨g,q,k,l,_,m⟩:=fH p n;have r:y.size≠0:=λe=>by rw[e]at c;cases c
   cases hx:d x with
   | pointer a=>
    cases a with
    | some a=>
     have e:∀w:World,(execOp d o).run P w=.ok (.value (.pointer (some (a.add q.offset)))) w:=λw=>by
      simp[execOp,b,hx,Instr.fieldAt,run_underlying k,l,Instr.sureAddr,fieldPlace,m.sizeOf,r]
     rw[e w]at h;rw[e j];simp at h ⊢;exact h
    | none=>simp[execOp,b,hx,Instr.fieldAt,run_underlying k,l,Instr.sureAddr,stuck]at h
   | _=>simp[execOp,b,hx,Instr.fieldAt,run_underlying k,l,Instr.sureAddr,stuck]at h
  .cases c
 .cases c
def Qkg{P}{c:Array Oper}{N}{u}{i}{p}{v}{S}(F:∀w,u i w w)(y:c[i]? = some p)(L:∀(j:Nat) (o:Oper) q b,c[j]? = some o->o.op≠.select q b):
  ∀(d:Nat) (e:Array Bool) (a:Act) (m:World),S m ->
   (∀j n,c[j]? = some n->j≠i->e.getD j true=false->AO c e i j\/((∀w r,u j w r->S w->S r)/\p.apart c n=true)) ->
   i∈Region.ready .any c e->YieldsIf P c S p v a ->
   yE P c N u d (e.setIfInBounds i true) (a.put p.dst v) m->yE P c N u (d+1) e a m:=by
 intro d;induction d with
 | zero=>
  intro e a m x _ g s H;refine⟨λh=>(by rw[h]at g;cases g),λj l=>?_⟩;by_cases f:j=i
  .subst f;exact s.wpOp y x ⟨F _,H⟩
  .have:=ready_mono l f;rw[H.1]at this;cases this
 | succ d Q=>
  intro e a m x K g s H;have M:=(mem_ready.1 g).1;refine⟨λh=>(by rw[h]at g;cases g),λj l=>?_⟩;by_cases f:j=i
  .subst f;exact s.wpOp y x ⟨F _,H⟩
  .have U:=H.2 j (ready_mono l f);obtain⟨J,n,B,JX⟩:=mem_ready.1 l;obtain⟨V,LZ⟩:=(K j n B f J).resolve_left λz=>z.uG M l;have T:=wpOp_putIf B LZ (λq b=>L i p q b y) (λq b=>L j n q b B) (λ_ _ _ h=>h) s U;refine wpOp_mono (λW r t=>?_) T;refine⟨t.2.1,Q (e.setIfInBounds j true) W r (V _ _ t.2.1 x) (λk O R Y E=>?_) (ready_mono g (Q1 f)) t.1 ?_⟩
   .have C:e.getD k true=false:=by
     by_cases I:j=k
     .subst I;exact J
     .rw[getD_set_ne true I]at E;exact E
    exact(K k O R Y C).imp (λz=>z.set M l) id
   .rw[Array.setIfInBounds_comm _ _ f];exact t.2.2
def KA(i:Nat):List Nat->Bool
 | []=>false
 | j::r=>Nat.beq i j || KA i r
def vV{i}:∀{l:List Nat},KA i l=true↔i∈l
 | []=>by simp[KA]
 | j::r=>by simp[KA,vV (l:=r)]
def UR(i:Nat):List Edge->Bool
 | []=>false
 | e::r=>(Region.binds .any e&&Nat.beq e.on i) || UR i r
def jF(done:List Nat):List Edge->Bool
 | []=>false
 | e::r=>(Region.binds .any e&&!KA e.on done) || jF done r
def L0(a:Array Oper)(done:List Nat)(i:Nat):Nat->List Edge->Bool
 | 0,_=>false
 | _+1,[]=>false
 | n+1,e::r=>(Region.binds .any e&&(Nat.beq e.on i || (!KA e.on done&&match a[e.on]? with
   | some o=>L0 a done i n o.after.toList
   | none=>false))) || L0 a done i n r
def B1(o:Oper):Bool:=match o.op with
 | .load ..=>true
 | _=>false
def B2(o:Oper):Bool:=match o.op with
 | .insert ..=>true
 | _=>false
def Pv(d:List Nat)(L:ZW)(a:Array Oper)(done:List Nat)(i:Nat)(c:Oper):List (Nat × Bool × Option Oper)->Bool
 | []=>true
 | (j,_,some b)::r=>(UR i b.after.toList || (((calm b&&!KA j d) || still L c || (B1 c&&B2 b))&&c.apart a b) || L0 a done i (4*a.size) b.after.toList)&&Pv d L a done i c r
 | (_,_,none)::_=>false
def US(l:List Nat):Nat->Bool
 | 0=>true
 | n+1=>KA n l&&US l n
def uK{l}:∀{n:Nat},US l n=true->∀j,j<n->j∈l
 | 0,_,j,h=>ω
 | n+1,h,j,a=>by
  simp only[US,ZH,vV]at h;by_cases e:j=n
  .subst e;exact h.1
  .exact uK h.2 j ω
def uL{i}:∀{l:List Edge},UR i l=true->∃e∈l,Region.binds .any e=true/\e.on=i
 | [],h=>by cases h
 | e::r,h=>by
  simp only[UR,Aq,ZH,VL]at h;rcases h with h|h
  .exact⟨e,σ,h.1,h.2⟩
  .obtain⟨c,b,a⟩:=uL h;exact⟨c,by simp[b],a⟩
def uM{done}:∀{l:List Edge},jF done l=true->∃e∈l,Region.binds .any e=true/\e.on ∉ done
 | [],h=>by cases h
 | e::r,h=>by
  simp only[jF,Aq,ZH,qZ]at h;rcases h with h|h
  .exact⟨e,σ,h.1,λa=>by rw[vV.2 a]at h;cases h.2⟩
  .obtain⟨d,c,b⟩:=uM h;exact⟨d,by simp[c],b⟩
def UT{done}:∀{l:List Edge},jF done l=false->∀e∈l,Region.binds .any e=true->e.on∈done
 | [],_,e,h,_=>by cases h
 | e::r,h,c,b,a=>by
  simp only[jF,EX,EV]at h;rcases QE.1 b with h1|h1
  .subst h1;rcases h.1 with h2|h2
   .rw[a]at h2;cases h2
   .exact vV.1 (by simpa using h2)
  .exact UT h.2 c h1 a
structure Marks (ops:Array Oper) (Zr:Array Bool) (done:List Nat):Prop where
 size:Zr.size=ops.size
 get:∀j,j<ops.size->(Zr.getD j true=false↔j ∉ done)
 get':∀j,Zr.getD j false=true↔j∈done/\j<ops.size
 lt:∀j,j∈done->j<ops.size
def Marks.set{a:Array Oper}{d:Array Bool}{done}(M:Marks a d done){i}(c:i<a.size):Marks a (d.setIfInBounds i true) (i::done) where
 size:=by simp[M.size]
 get:=λj b=>by
  by_cases e:i=j
  .subst e;simp[M.size,c]
  .rw[getD_set_ne true e,M.get j b];simp[Q1 e]
 get':=λj=>by
  by_cases e:i=j
  .subst e;simp[M.size,c]
  .rw[getD_set_ne false e,M.get' j];simp[Q1 e]
 lt:=λj b=>by
  rcases QE.1 b with e|e
  .subst e;exact c
  .exact M.lt j e
def Y7(o:Oper):Bool:=match o.op with
 | .alloc _=>true
 | .makeMap _ none=>true
 | _=>false
def FG(P:Program)(o:Oper)(d:Ob)(mk:Nat->D):Prop:=∃(obj:Obj) (a:Nat->Value),
 (∀(e:Operand->Value) (w:World),(execOp e o).run P w=.ok (.value (a w.heap.size)) (w.alloc obj)) /\
 (∀(Z:Nat->Prop) (h:List Ob) (c:List Pl) (w:World) (b:Nat),w.heap[b]? = some obj->Kb Z h c w d b 0) /\
 (∀(Z:Nat->Prop) (h:List Ob) (c:List Pl) (w:World) (l b:Nat),h[l]? = some d->c[l]? = some (some (b,0))->Qy Z h c w (mk l) (a b))
def uN{P}{L}(m:ZU P L){o:Oper}{t:TypeId}(f:o.op=.alloc t){y}(e:ty L t=some y):
  FG P o ⟨.one,0,(y.zero.map JT).length,1,λ_=>y.zero.map JT⟩ (λl=>.ptr l 0 0 0):=by
 obtain⟨z,hz,q⟩:=(m _ _ e).zeroValue;refine⟨.cells z.cells t,λb=>.pointer (some ⟨b,0,none⟩),fun s w=>?_,λZ h d w b k=>?_,λZ h d w l b p n=>?_⟩
 .simp[execOp,f,Instr.alloc,newVar,newRow,q]
 .refine .LA rfl ⟨z.cells,t,k,by simp[<- hz],λ_ _=>rfl,λi j g a=>?_⟩;have r:i=0:=by simp at g;omega
  subst r;have c:j<z.cells.size:=by rw[<- hz]at a;simpa using a
  refine⟨QY z.cells.toList j,?_,.cl _ _ ?_⟩
  .simp only[Nat.zero_mul,Jv,QY,Q5];rw[ku,zF c];rfl
  .rw[<- hz];simp only[nth,QY,Q5,Kl,ku,zF c,Kx,KV];exact BJ _ _ _
 .exact .ptr _ _ _ _ _ (some (b,0)) _ p n rfl (QB _) (λ_=>⟨_,_,rfl,σ⟩)
def uO{P}{o:Oper}{t:TypeId}(d:o.op=.makeMap t none)(q):FG P o (QM q 0 []) (λl=>.mref l 0):=by
 refine⟨.map #[] 0,λb=>.map (some b),fun m w=>?_,λZ h c w b f=>?_,λZ h c w l b k g=>?_⟩
 .simp[execOp,d,Instr.makeMap]
 .exact gy (kd:=.map) f ⟨rfl,λi e a h=>by simp at h,λi j a n _ h=>by simp at h⟩ rfl
 .exact .mref _ _ (QM q 0 []) (some (b,0)) b k g ⟨by simp[QM,VE,Kd.ty],rfl⟩ (QB _) (λ_=>rfl)
section
variable (P:Program)(base nt:Nat)(w0:Start)
def DB(o : Oper): Bool := calm o && !(o.pos == "!")
def Yv(b : Bool)(o : Oper): Oper := ⟨o.dst, o.op, o.type, bif b then "!" else "", #[], none⟩
theorem uP{P}{b}{o:Oper}{a}{w}{K}{Q}:(Yv b o).wp P a w K Q=o.wp P a w K Q:=rfl
def Qki(b)(o):DB (Yv b o)=(calm o&&!b):=by cases b<;>simp[DB,Yv,calm]
def jG(o:Oper)(w a:World):Prop:=match o.op with
 | .insert ..=>zI w a
 | _=>DB o=true->Ext w a
def jG.ext{o}{w a}(h:Ext w a):jG o w a:=by
 unfold jG;split
 .exact .ext h
 .exact λ_=>h
def jG.calm{o}{w a}(h:jG o w a)(b:DB o=true):Ext w a:=by
 unfold jG at h;split at h
 .rename_i c;simp[DB,Go.Fg.calm,c]at b
 .exact h b
def jG.ins{o}{w b}(h:jG o w b)(a:B2 o=true):zI w b:=by
 unfold B2 at a;split at a
 .rename_i c;unfold jG at h;rw[c]at h;exact h
 .cases a
def jG.mk{o}{w a}(h:DB o=true->Ext w a)(c:B2 o=false):jG o w a:=by
 unfold jG;split
 .rename_i b;simp[B2,b]at c
 .exact h
def vW(c:List Nat)(a:Array Oper)(i:Nat)(w b:World):Prop:=match a[i]? with
 | some o=>jG (Yv (KA i c) o) w b
 | none=>True
def Hy{c}{a:Array Oper}{i}{o}{w b}(d:a[i]? = some o):vW c a i w b=jG (Yv (KA i c) o) w b:=by simp only[vW,d]
def AE(o:Oper)(F:St->Prop)(s:St):Prop:=∀(Z:Nat->Prop),Ph w0 Z->∀e a w,Rel Z base nt s e a w->KG Z base w0 s.h e w ->
 o.wp P a w (λg b=>jG o w b/\∃d c f v,F ⟨Q8 s.fr o.dst d,c⟩/\Rel Z base nt ⟨Q8 s.fr o.dst d,c⟩ f g b/\KG Z base w0 c f b/\Tr s.h e w c f b/\g=a.put o.dst v) (λ_ _ _=>False)
def WR(b:Bool)(o:Oper)(F:St->Prop)(s:St):Prop:=match b with
 | true=>∃d,VZ P base nt o s d/\(B1 o=true->TN P base nt o s d)/\Zj nt o.dst=true/\F ⟨Q8 s.fr o.dst d,s.h⟩
 | false=>match Y7 o with
  | true=>∃a mk,FG P o a mk/\Zj nt o.dst=true/\F ⟨Q8 s.fr o.dst (mk s.h.length),s.h++[a]⟩
  | false=>AE P base nt w0 o F s
def AX(K:St->Prop):List (Bool × Oper × G)->St->Prop
 | [],s=>K s
 | (a,o,g)::r,s=>match g with
  | none=>WR P base nt w0 a o (AX K r) s
  | some (none,_)=>Zj nt o.dst=true/\AX K r ⟨Q8 s.fr o.dst (.raw Go.undef),s.h⟩
  | some (some t,b)=>match get s.fr t with
   | .raw (.bool x)=>(x=b->WR P base nt w0 a o (AX K r) ⟨put s.fr t (.raw (.bool b)),s.h⟩) /\
     (x=(!b)->Zj nt o.dst=true/\AX K r ⟨Q8 (put s.fr t (.raw (.bool (!b)))) o.dst (.raw Go.undef),s.h⟩)
   | .raw (.tuple _)=>Zj nt o.dst=true/\AX K r ⟨Q8 s.fr o.dst (.raw Go.undef),s.h⟩
   | _=>False
end
def Vb(c:List Nat)(a:Array Oper)(l:List (Nat × Bool)):List (Bool × Oper × G):=l.map λb=>match a[b.1]? with
 | some o=>(b.2,Yv (KA b.1 c) o,guardOf a o)
 | none => (b.2, ⟨none, .move (.tmp 0), 0, "", #[], none⟩, none)
section
variable {nc:List Nat}{P:Program}{base nt:Nat}{w0:Start}
def Qkj{o:Oper}{c}{mk}{F}{s:St}(h:FG P o c mk)(j:Zj nt o.dst=true)(B:base<=w0.w.heap.size)(u:F ⟨Q8 s.fr o.dst (mk s.h.length),s.h++[c]⟩):AE P base nt w0 o F s:=by
 intro Z z d a w r b;obtain⟨obj,g,y,x,v⟩:=h;have e:∀k,k<w.heap.size->(w.alloc obj).heap[k]? = w.heap[k]? := λk f=>kz w obj k f;have C:(w.alloc obj).heap[w.heap.size]? = some obj:=heap_alloc_new w obj;have i:base<=w.heap.size:=K9 B b.1.size;have T:Tr s.h d w (s.h++[c]) (d++[some (w.heap.size,0)]) (w.alloc obj):=Tr.push r.o e _ _ (by intro k q n;simp at n;omega);have l:=Zg.LC r.o e c (QB _) i (x Z (s.h++[c]) (d++[some (w.heap.size,0)]) _ _ C);have m:Qy Z (s.h++[c]) (d++[some (w.heap.size,0)]) (w.alloc obj) (mk s.h.length) (g w.heap.size):=v Z _ _ _ _ _ σ (by rw[<- r.o.len];simp);unfold Oper.wp;rw[y a.eval w];simp only[Oper.upon_value];refine⟨jG.ext λk f=>e k f,_,_,_,_,u,?_,b.step T (BQ i obj),T,rfl⟩;cases p:o.dst with
 | none=>exact r.ym T l _
 | some t=>rw[p]at j;exact r.to T l (zQ j) m
def WR.ae(d:base<=w0.w.heap.size){o}{F}{s}(h:WR P base nt w0 false o F s):AE P base nt w0 o F s:=by
 simp only[WR]at h;split at h
 .obtain⟨e,mk,c,b,a⟩:=h;exact Qkj c b d a
 .exact h
def Qy.L6{Z M}{h L}{B F}{w C:World}(R:∀b,free Z B b->b<w.heap.size->free M F b/\C.heap[b]? = w.heap[b]?)
  (n:∀(l:Nat) (o:Ob) (p:Pl),h[l]? = some o->B[l]? = some p->L[l]? = some o/\F[l]? = some p) (S:∀(l b q:Nat),B[l]? = some (some (b,q))->C.heap[b]? = w.heap[b]?) {d:D} {v:Value} (r:Qy Z h B w d v):Qy M L F C d v:=by
 induction r with
 | cl d v E=>exact .cl d v (E.mono R)
 | ref l g H I o p a J k e x y u=>
  refine .ref l g H I o p a J (n l o p k e).1 (n l o p k e).2 x y λO=>?_;rcases u O with U|⟨b,q,c,el,N,T,V,E,m⟩
  .exact .inl U
  .exact .inr ⟨b,q,c,el,N,T,by rw[S l b q (by rw[e,N])];exact V,E,m⟩
 | ptr l g i j o p a k e x y u=>exact .ptr l g i j o p a (n l o p k e).1 (n l o p k e).2 x y u
 | mref l g o p b k e x y u=>exact .mref l g o p b (n l o p k e).1 (n l o p k e).2 x y u
 | clo f Q z s m K t=>exact .clo f Q z s m t
 | agg z s m K t=>exact .agg z s m t
 | tup z s m K t=>exact .tup z s m t
def Zg.L6{Z g}{h}{c}{w f:World}(R:Zg Z base h c w)(n:∀b,free Z c b->b<w.heap.size->free g c b/\f.heap[b]? = w.heap[b]?)(e:∀b,b<w.heap.size->f.heap[b]? = w.heap[b]?):Zg g base h c f where
 len:=R.len
 inj:=R.inj
 Vh:=R.Vh
 at_:=λl o b q m d=>by
  obtain⟨p,x⟩:=R.at_ l o b q m d;exact⟨p,x.to rfl rfl rfl (e b (R.lt d).1) (λ_ _=>rfl) λi j v _ _ k=>k.L6 n (λ_ _ _ a b=>⟨a,b⟩) (λl b q d=>e b (R.lt d).1)⟩
def Zg.gO{Z s}{h}{k}{w}(R:Zg Z base h k w){b}(C:∀c,free Z k c->free s (k++[some (b,0)]) c)(y:W0 k b)(J:base<=b){n}
  (z:Kb s (h++[n]) (k++[some (b,0)]) w n b 0):Zg s base (h++[n]) (k++[some (b,0)]) w:=by
 refine⟨by simp[R.len],?_,?_,?_⟩
 .intro l u r q t p H;rcases XM p with e|⟨e,f⟩<;>rcases XM H with d|⟨d,g⟩
  .exact R.inj l u r q t e d
  .simp at g;obtain⟨rfl,rfl⟩:=g;exact absurd e (y l q)
  .simp at f;obtain⟨rfl,rfl⟩:=f;exact absurd d (y u t)
  .omega
 .intro l o m p;rcases XM p with e|⟨e,f⟩
  .rcases XM m with d|⟨d,g⟩
   .exact R.Vh l o d e
   .have:=VM e;have:=R.len;omega
  .simp at f
 .intro l o r q m I;rcases XM I with e|⟨e,f⟩
  .rcases XM m with d|⟨d,g⟩
   .obtain⟨F,x⟩:=R.at_ l o r q d e;exact⟨F,x.to rfl rfl rfl rfl (λ_ _=>rfl) λi j v _ _ B=>B.L6 (λc E _=>⟨C c E,rfl⟩) (λ_ _ _ a b=>⟨xl a,xl b⟩) (λ_ _ _ _=>rfl)⟩
   .have:=VM e;have:=R.len;omega
  .rcases XM m with d|⟨d,g⟩
   .have:=Kh d;have:=R.len;omega
   .subst g;simp at f;obtain⟨rfl,rfl⟩:=f;exact⟨λ_=>J,z⟩
def Wn(a:Array Oper)(i:Nat):Bool:=match a[i]? with
 | some o=>Y7 o&&o.guard.isNone&&o.after.toList.isEmpty
 | none=>false
def L7(a:Array Oper)(done:List Nat)(i:Nat):List Edge->Bool
 | []=>false
 | e::r=>(Region.binds .any e&&!KA e.on done&&(!Wn a e.on || Nat.beq e.on i)) || L7 a done i r
def Pw(a:Array Oper)(done:List Nat)(i:Nat):List (Nat × Bool × Option Oper)->Bool
 | []=>true
 | (j,_,some b)::r=>(Wn a j || L7 a done i b.after.toList)&&Pw a done i r
 | (_,_,none)::_=>false
def Hz(a:Array Oper)(R:List Nat):List (Nat × Bool × Option Oper):=R.map λi=>(i,false,a[i]?)
def DC(nc:List Nat)(L:ZW)(a:Array Oper)(R:List Nat):List (Nat × Bool × Option Oper)->List Nat->Bool
 | [],_=>true
 | (i,p,some o)::r,done=>!KA i done&&!jF done o.after.toList&&(match p with
  | true=>!Wn a i&&Pv nc L a done i o (r++Hz a R)
  | false=>Pw a done i (r++Hz a R))&&DC nc L a R r (i::done)
 | (_,_,none)::_,_=>false
def uQ{a}{done}{i}:∀{l:List Edge},L7 a done i l=true->∃e∈l,Region.binds .any e=true/\e.on ∉ done/\(Wn a e.on=false\/e.on=i)
 | [],h=>by cases h
 | e::r,h=>by
  simp only[L7,Aq,ZH,qZ,VL]at h;rcases h with h|h
  .exact⟨e,σ,h.1.1,(λb=>by rw[vV.2 b]at h;exact absurd h.1.2 σ),h.2⟩
  .obtain⟨f,d,c⟩:=uQ h;exact⟨f,by simp[d],c⟩
def uR{a:Array Oper}{done}{i}:∀{r:List (Nat × Bool × Option Oper)},(∀x∈r,x.2.2=a[x.1]?)->Pw a done i r=true->∀x∈r,∀b,a[x.1]? = some b->Wn a x.1=true\/L7 a done i b.after.toList=true
 | [],_,_,x,hx,_,_=>by cases hx
 | (j,p,none)::r,_,h,_,_,_,_=>by cases h
 | (j,p,some o)::r,d,h,x,hx,b,c=>by
  simp only[Pw,ZH,Aq]at h;rcases QE.1 hx with h1|h1
  .subst h1;have e:some o=a[j]? := d (j,p,some o) σ;have c:a[j]? = some b:=c;rw[c]at e;cases e;exact h.1
  .exact uR (λy f=>d y (by simp[f])) h.2 x h1 b c
abbrev En:=Nat × Bool × Option Nat
def Xi(l:List En):List Nat:=l.map (·.1)
def X7(l:List En):List (Nat × Bool):=l.map λx=>(x.1,x.2.1)
def early:List En->List Nat
 | []=>[]
 | (i,_,some _)::r=>i::early r
 | (_,_,none)::r=>early r
def blocks:List En->List Nat
 | []=>[]
 | (_,_,some b)::r=>b::blocks r
 | (_,_,none)::r=>blocks r
def X8:List En->Nat
 | []=>0
 | (_,_,some _)::r=>X8 r
 | (_,_,none)::r=>X8 r+1
def HA{j}:∀{l:List En},j∈early l↔∃p b,(j,p,some b)∈l
 | []=>by simp[early]
 | (i,p,some b)::r=>by
  simp only[early,QE,HA (l:=r),Q9,QX];constructor
  .rintro (rfl|⟨a,c,h⟩)
   .exact⟨p,b,.inl ⟨rfl,rfl,rfl⟩⟩
   .exact⟨a,c,.inr h⟩
  .rintro⟨a,c,⟨rfl,_⟩|h⟩
   .exact .inl rfl
   .exact .inr ⟨a,c,h⟩
 | (i,p,none)::r=>by
  simp only[early,QE,HA (l:=r),Q9,reduceCtorEq,and_false,false_or]
def DD{c}:∀{l:List En},c∈blocks l↔∃j p,(j,p,some c)∈l
 | []=>by simp[blocks]
 | (i,p,some b)::r=>by
  simp only[blocks,QE,DD (l:=r),Q9,QX];constructor
  .rintro (rfl|⟨a,d,h⟩)
   .exact⟨i,p,.inl ⟨rfl,rfl,rfl⟩⟩
   .exact⟨a,d,.inr h⟩
  .rintro⟨a,d,⟨_,_,rfl⟩|h⟩
   .exact .inl rfl
   .exact .inr ⟨a,d,h⟩
 | (i,p,none)::r=>by
  simp only[blocks,QE,DD (l:=r),Q9,reduceCtorEq,and_false,false_or]
def gP{j:Nat}{p:Bool}{b:Nat}{l2:List En}:∀a:List En,X8 (a++(j,p,none)::l2)=X8 (a++(j,p,some b)::l2)+1
 | []=>rfl
 | (_,_,some _)::r=>gP r
 | (_,_,none)::r=>by
  simp only[YT,X8];rw[gP (b:=b) r]
def gR{j:Nat}{p:Bool}{b:Nat}{a:List En}:∀d:List En,b ∉ blocks (d++(j,p,none)::a)->(blocks (d++(j,p,none)::a)).Nodup->(blocks (d++(j,p,some b)::a)).Nodup
 | [],h,k=>by simp only[q4,blocks]at h k ⊢;exact ZN.2 ⟨h,k⟩
 | (i,q,some c)::r,h,k=>by
  simp only[YT,blocks,QE,YX]at h k ⊢;obtain⟨f,l⟩:=ZN.1 k;refine ZN.2 ⟨λm=>?_,gR r h.2 l⟩;obtain⟨g,e,n⟩:=DD.1 m;rcases QW.1 n with h1|h1
  .exact f (DD.2 ⟨g,e,QW.2 (.inl h1)⟩)
  .rcases QE.1 h1 with h2|h2
   .cases h2;exact h.1 rfl
   .exact f (DD.2 ⟨g,e,QW.2 (.inr (QE.2 (.inr h2)))⟩)
 | (i,q,none)::r,h,k=>by
  simp only[YT,blocks]at h k ⊢;exact gR r h k
structure UU (P:Program) (ops:Array Oper) (nt:Nat) (w0:Start) (pl:List Pl) (a:Act) (w:World) (i b:Nat):Prop where
 run:∃(o:Oper) (d:Nat) (w1:World) (ρ:Operand->Value) (v:Value) (obj:Obj),ops[i]? = some o/\o.dst=some d/\(execOp ρ o).run P w1=.ok (.value v) (w1.alloc obj)/\b=w1.heap.size/\w.heap[b]? = some obj/\(d<nt->a.tmps.getD d Go.undef=v)
 W0:W0 pl b
 low:w0.w.heap.size<=b
def uS{a:Act}{t:Option Nat}{d:Nat}{v:Value}(h:t≠some d):(a.put t v).tmps.getD d Go.undef=a.tmps.getD d Go.undef:=by
 cases t with
 | none=>rfl
 | some t=>
  have:t≠d:=λe=>h (by rw[e]);simp[Act.put,w9,fp this]
def UU.step{P:Program}{c:Array Oper}{nt:Nat}{w0:Start}{h h':List Ob}{f l:List Pl}{a:Act}{w e:World}{i b:Nat}(p:UU P c nt w0 f a w i b)(T:Tr h f w h' l e){t:Option Nat}(v:Value)
  (x:∀o d,c[i]? = some o->o.dst=some d->t≠some d):UU P c nt w0 l (a.put t v) e i b:=by
 obtain⟨o,d,n,m,u,obj,k,j,B,z,g,y⟩:=p.run;obtain⟨r,q⟩:=T.Kg b p.W0 (jx g);exact⟨⟨o,d,n,m,u,obj,k,j,B,z,by rw[q];exact g,λs=>by rw[uS (x o d k j)];exact y s⟩,r,p.low⟩
def UW{a}{t}{u}{d}(h:t≠some u):get (Q8 a t d) u=get a u:=by
 cases t with
 | none=>rfl
 | some t=>rw[Q8,Dm,Qe (λe=>h (by rw[e]))]
structure xw (nc:List Nat) (P:Program) (L:ZW) (ops:Array Oper) (R:List Nat) (base nt:Nat) (w0:Start) (Z0 Z:Nat->Prop) (l:List En) (done:List Nat) (Zr:Array Bool) (s:St) (pl:List Pl) (a:Act) (w:World):Prop where
 sched:DC nc L ops R ((X7 l).map λip=>(ip.1,ip.2,ops[ip.1]?)) done=true
 cover:∀j,j<ops.size->j ∉ done->j∈Xi l\/j∈R
 Ma:∀j∈R,j ∉ done/\j ∉ Xi l/\Wn ops j=false
 marks:Marks ops Zr (early l++done)
 late:∀i p b,(i,p,some b)∈l->Wn ops i=true
 lp:∀i p q,(i,p,q)∈l->Wn ops i=true->p=false
 z:∀b,Z b↔Z0 b/\b ∉ blocks l
 z0:∀i p b,(i,p,some b)∈l->Z0 b
 UX:(blocks l).Nodup
 Px:∀i p q,(i,p,q)∈l->Wn ops i=true->∀o d,ops[i]? = some o->o.dst=some d->get s.fr d=.undef
 rel:Rel Z base nt s pl a w
 since:KG Z base w0 s.h pl w
 HB:∀i p b,(i,p,some b)∈l->UU P ops nt w0 pl a w i b
def UY{L}{a:Array Oper}{R}:∀{l:List En} {done:List Nat},DC nc L a R ((X7 l).map λc=>(c.1,c.2,a[c.1]?)) done=true->∀j,j∈Xi l->j ∉ done
 | [],_,_,j,b=>by simp[Xi]at b
 | (i,p,q)::r,done,h,j,b=>by
  simp only[X7,JN]at h;cases e:a[i]? with
  | none=>rw[e]at h;cases h
  | some o=>
   rw[e]at h;simp only[DC,ZH,qZ]at h;simp only[Xi,JN,QE]at b;rcases b with rfl|b
   .exact λd=>by rw[vV.2 d]at h;exact absurd h.1.1.1 σ
   .exact λd=>UY (l:=r) h.2 j b (QE.2 (.inr d))
def Marks.same{a}{e}{d c}(M:Marks a e d)(h:∀j,j∈d↔j∈c):Marks a e c where
 size:=M.size
 get:=λj b=>by rw[M.get j b,h]
 get':=λj=>by rw[M.get',h]
 lt:=λj b=>M.lt j ((h j).2 b)
def UZ{a:Array Oper}{i}{o:Oper}(b:a[i]? = some o)(h:Wn a i=true):Y7 o=true/\o.guard=none/\∀e,e ∉ o.after:=by
 simp only[Wn,b,ZH,Option.isNone_iff_eq_none,List.isEmpty_iff]at h;exact⟨h.1.1,h.1.2,λe c=>by have:e∈o.after.toList:=(by simpa using c);rw [h.2] at this; cases this⟩
def gS{a:Array Oper}{t}{done s}(M:Marks a t (s++done))(p:∀j∈s,Wn a j=true){i}:∀{n:Nat} {j:Nat} {b:Oper} {l:List Edge},a[j]? = some b->(∀e∈l,e∈b.after)->L0 a done i n l=true->AO a t i j
 | 0,_,_,_,_,_,h=>by cases h
 | n+1,_,_,[],_,_,h=>by cases h
 | n+1,j,b,e::r,m,k,h=>by
  simp only[L0,Aq,ZH,VL,qZ]at h;rcases h with ⟨q,f|⟨f,d⟩⟩|h
  .exact .Pu j b e m (k e σ) q f
  .split at d
   .rename_i o g;have Qc:=(Wg.1 g).1;refine .step j b e m (k e σ) q ((M.get e.on Qc).2 λu=>?_) (gS M p g (λe c=>by simpa using c) d);rcases QW.1 u with h3|h3
    .have v:=(UZ g (p _ h3)).2.2;have:o.after.toList=[]:=ft.2 λe c=>v e (by simpa using c);rw[this]at d;cases n<;>simp[L0]at d
    .rw[vV.2 h3]at f;cases f
   .cases d
  .exact gS M p m (λe c=>k e (by simp[c])) h
def uT{L}{a:Array Oper}{done k}{i}{d:Oper}{l}(M:Marks a l (k++done))(m:∀j∈k,Wn a j=true):∀{r:List (Nat × Bool × Option Oper)},(∀x∈r,x.2.2=a[x.1]?)->Pv nc L a done i d r=true->∀x∈r,∀b,a[x.1]? = some b->AO a l i x.1\/((((calm b=true/\KA x.1 nc=false)\/still L d=true)\/(B1 d=true/\B2 b=true))/\d.apart a b=true)
 | [],_,_,x,hx,_,_=>by cases hx
 | (j,p,none)::r,_,h,_,_,_,_=>by cases h
 | (j,p,some o)::r,g,h,x,hx,b,c=>by
  simp only[Pv,ZH,Aq]at h;rcases QE.1 hx with h1|h1
  .subst h1;have e:some o=a[j]? := g (j,p,some o) σ;have c:a[j]? = some b:=c;rw[c]at e;cases e;rcases h.1 with (h2|h2)|h2
   .obtain⟨e,f,s,n⟩:=uL h2;exact .inl (.Pu j _ e c (by simpa using f) s n)
   .simp only[qZ]at h2;exact .inr h2
   .exact .inl (gS M m c (λe f=>by simpa using f) h2)
  .exact uT M m (λy q=>g y (by simp[q])) h.2 x h1 b c
def Py(a:Array Oper):Prop:=∀(i j:Nat) (c b:Oper) (d:Nat),i≠j->Wn a i=true->a[i]? = some c->a[j]? = some b->c.dst=some d->b.dst≠some d
def xw.head{L}{b}{R}{n Z}{i}{p}{q}{r}{done}{m}{s}{g}{a}{w}(I:xw nc P L b R base nt w0 n Z ((i,p,q)::r) done m s g a w):
  ∃o,b[i]? = some o/\i ∉ done/\(∀e∈o.after,Region.binds .any e=true->e.on∈done) /\
   (p=true->Wn b i=false/\Pv nc L b done i o ((X7 r).map (λc=>(c.1,c.2,b[c.1]?))++Hz b R)=true)/\(p=false->Pw b done i ((X7 r).map (λc=>(c.1,c.2,b[c.1]?))++Hz b R)=true) /\
   DC nc L b R ((X7 r).map λc=>(c.1,c.2,b[c.1]?)) (i::done)=true:=by
 have h:=I.sched;simp only[X7,JN]at h;cases f:b[i]? with
 | none=>rw[f]at h;cases h
 | some o=>
  rw[f]at h;simp only[DC,ZH,qZ]at h;refine⟨o,rfl,λj=>by rw[vV.2 j]at h;exact absurd h.1.1.1 σ,λe k l=>UT h.1.1.2 e (by simpa using k) l,λd=>?_,λd=>?_,h.2⟩
  .subst d;have:=h.1.2;simp only[ZH,qZ]at this;exact this
  .subst d;exact h.1.2
def gT{i}{p}{q}{l}(h:(i,p,q)∈l):i∈Xi l:=Jm.2 ⟨_,h,rfl⟩
def xw.next{L}{f}{R}(Q:Py f){F Z}{i}{p}{r}{done}{E}{s s'}{y t}{a}{w m}(I:xw nc P L f R base nt w0 F Z ((i,p,none)::r) done E s y a w)
  {o:Oper} (x:f[i]? = some o) (v:Value) (T:Tr s.h y w s'.h t m) (O:Rel Z base nt s' t (a.put o.dst v) m) (N:KG Z base w0 s'.h t m) (M:∀d,o.dst≠some d->get s.fr d=.undef->get s'.fr d=.undef) :
  xw nc P L f R base nt w0 F Z r (i::done) (E.setIfInBounds i true) s' t (a.put o.dst v) m:=by
 obtain⟨U,C,h1,Y,W,V,B⟩:=I.head;rw[x]at C;cases C;have Qc:=(Wg.1 x).1;have S:∀j p q,(j,p,q)∈r->j≠i:=λj p q c e=>UY B j (gT c) (by rw[e];simp);have H:∀j p q,(j,p,q)∈r->Wn f j=true->∀k d,f[j]? = some k->k.dst=some d->o.dst≠some d:=λj p q c n k d l g=>Q j i k o d (S j p q c) n l x g;refine⟨B,λj c g=>?_,λj c=>?_,(I.marks.set Qc).same λj=>?_,λj p b c=>I.late j p b (Km _ c),λj p q c=>I.lp j p q (Km _ c),I.z,λj p b c=>I.z0 j p b (Km _ c),I.UX,λj p q c n k d l g=>?_,O,N,λj p b c=>?_⟩
 .simp only[QE,YX]at g;have:=I.cover j c g.2;simp only[Xi,JN,QE]at this;rcases this with (h|h)|h
  .exact absurd h g.1
  .exact .inl h
  .exact .inr h
 .obtain⟨K,u,J⟩:=I.Ma j c;simp only[Xi,JN,QE,YX]at u;exact⟨λh=>by
   rcases QE.1 h with h|h
   .exact u.1 h
   .exact K h,u.2,J⟩
 .simp only[early,QE,QW];constructor
  .rintro (h|h|h)
   .exact .inr (.inl h)
   .exact .inl h
   .exact .inr (.inr h)
  .rintro (h|h|h)
   .exact .inr (.inl h)
   .exact .inl h
   .exact .inr (.inr h)
 .exact M d (H j p q c n k d l g) (I.Px j p q (Km _ c) n k d l g)
 .exact(I.HB j p b (Km _ c)).step T v λk d l g=>H j p _ c (I.late j p b (Km _ c)) k d l g
def Tr.snoc{h r}{j t}{w i:World}(T:Tr h j w r t i){b q}(B:w.heap.size<=b)(v):Tr h j w (r++[v]) (t++[some (b,q)]) i where
 Kg:=λc f Qc=>⟨OU (T.Kg c f Qc).1 λq e=>by simp at e;omega,(T.Kg c f Qc).2⟩
 obj:=λl o p d a=>by
  obtain⟨k,u,g,n,m⟩:=T.obj l o p d a;exact⟨k,u,xl g,xl n,m⟩
 shape:=λl o k b q d s x a c el f=>by
  obtain⟨z,y,g,n,m⟩:=T.obj l o _ d a;rw[xl g]at s;cases s;exact T.shape l o _ b q d g x a c el f
def xw.gO{L}{g}{R}(hD:Py g)(QU:base<=w0.w.heap.size){m Z}{i b}{p}{r}{done}{Zr}{s}{k}{a}{w}(I:xw nc P L g R base nt w0 m Z ((i,p,some b)::r) done Zr s k a w)
  {o:Oper} (N:g[i]? = some o) {y:Ob} {mk:Nat->D} (hL:FG P o y mk) (Y:Zj nt o.dst=true) :
  ∃Z',xw nc P L g R base nt w0 m Z' r (i::done) Zr ⟨Q8 s.fr o.dst (mk s.h.length),s.h++[y]⟩ (k++[some (b,0)]) a w:=by
 obtain⟨o',Zw,Q,h2,h3,h4,h5⟩:=I.head;rw[N]at Zw;cases Zw;have QA:∀j p q,(j,p,q)∈r->j≠i:=λj p q f e=>UY h5 j (gT f) (by rw[e];simp);have Mb:=I.late i p b (K8 ..);have U0:∀j p q,(j,p,q)∈r->Wn g j=true->∀x d,g[j]? = some x->x.dst=some d->o.dst≠some d:=λj p q f E x d F n=>hD j i x o d (QA j p q f) E F N n;obtain⟨o1,d,H,ρ,v,obj,g1,g2,g3,g4,g5,g6⟩:=(I.HB i p b (K8 ..)).run;rw[N]at g1;cases g1;have Mc:=(I.HB i p b (K8 ..)).W0;have Md:=(I.HB i p b (K8 ..)).low;obtain⟨W,a0,M,B,K⟩:=hL;have J:=M ρ H;rw[g3]at J;simp only[Result.ok.injEq,Next.value.injEq]at J;obtain⟨rfl,T⟩:=J;have B3:obj=W:=by
  have e1:=heap_alloc_new H obj;have e2:=heap_alloc_new H W;rw[T,e2]at e1;exact(G6 e1).symm
 subst B3;have U:d<nt:=by rw[g2]at Y;exact zQ Y
 have hz:∀c,Z c↔m c/\c≠b/\c ∉ blocks r:=λc=>by rw[I.z c];simp only[blocks,QE,YX]
 have Xt:b ∉ blocks r:=by have:=I.UX;simp only[blocks]at this;exact(ZN.1 this).1
 have V:m b:=I.z0 i p b (K8 ..);have Yt:∀c,free Z k c->free (λc=>m c/\c ∉ blocks r) (k++[some (b,0)]) c:=λc u=>⟨⟨((hz c).1 u.1).1,((hz c).1 u.1).2.2⟩,OU u.2 λq e=>by simp at e;exact((hz c).1 u.1).2.1 e.1.symm⟩;have C:k.length=s.h.length:=I.rel.o.len;have hx:=B (λc=>m c/\c ∉ blocks r) (s.h++[y]) (k++[some (b,0)]) w b g5;have hO:=I.rel.o.gO Yt Mc (K9 QU Md) hx;have hv:=K (λc=>m c/\c ∉ blocks r) (s.h++[y]) (k++[some (b,0)]) w s.h.length b σ (by rw[<- C];simp);have vX:∀{d v},Qy Z s.h k w d v->Qy (λc=>m c/\c ∉ blocks r) (s.h++[y]) (k++[some (b,0)]) w d v:=λhr=>hr.L6 (λc u _=>⟨Yt c u,rfl⟩) (λ_ _ _ a b=>⟨xl a,xl b⟩) (λ_ _ _ _=>rfl);refine⟨λc=>m c/\c ∉ blocks r,h5,λj f n=>?_,λj f=>?_,I.marks.same λj=>?_,λj p b f=>I.late j p b (Km _ f),λj p q f=>I.lp j p q (Km _ f),λc=>Iff.rfl,λj p b f=>I.z0 j p b (Km _ f),?_,λj p q f E x d F n=>?_,⟨I.rel.nt,I.rel.defers,λt=>?_,hO⟩,⟨I.since.1,?_,⟨λc u=>?_,λl c q e h0=>?_⟩⟩,λj p b' f=>?_⟩
 .simp only[QE,YX]at n;have:=I.cover j f n.2;simp only[Xi,JN,QE]at this;rcases this with (h|h)|h
  .exact absurd h n.1
  .exact .inl h
  .exact .inr h
 .obtain⟨M,B,K⟩:=I.Ma j f;simp only[Xi,JN,QE,YX]at B;exact⟨λh=>by
   rcases QE.1 h with h|h
   .exact B.1 h
   .exact M h,B.2,K⟩
 .simp only[early,QE,QW];constructor
  .rintro ((h|h)|h)
   .exact .inr (.inl h)
   .exact .inl h
   .exact .inr (.inr h)
  .rintro (h|h|h)
   .exact .inl (.inr h)
   .exact .inl (.inl h)
   .exact .inr h
 .have:=I.UX;simp only[blocks]at this;exact(ZN.1 this).2
 .rw[UW (U0 j p q f E x d F n)];exact I.Px j p q (Km _ f) E x d F n
 .rw[g2,Q8,Dm];by_cases e:t=d
  .rw[Qf e,e,g6 U,<- g4];exact hv
  .rw[Qe e];exact vX (I.rel.fr t)
 .exact I.since.2.1.snoc Md y
 .exact(I.z c).1 (I.since.2.2.new c u) |> λh=>⟨h.1,λO=>h.2 (by simp only[blocks,QE];exact .inr O)⟩
 .rcases XM e with Q|⟨Q,Z6⟩
  .exact(I.z c).1 (I.since.2.2.own l c q Q h0) |> λh=>⟨h.1,λO=>h.2 (by simp only[blocks,QE];exact .inr O)⟩
  .simp at Z6;obtain⟨rfl,rfl⟩:=Z6;exact⟨V,Xt⟩
 .have S:=I.HB j p b' (Km _ f);exact⟨S.run,OU S.W0 λq e=>by
   simp at e;exact Xt (by rw[e.1];exact DD.2 ⟨j,p,f⟩),S.low⟩
def HC{j b:Nat}{p:Bool}{c a:List En}{x:En}(h:x∈c++(j,p,some b)::a):x∈c++(j,p,none)::a\/x=(j,p,some b):=by
 rcases QW.1 h with h|h
 .exact .inl (QW.2 (.inl h))
 .rcases QE.1 h with h|h
  .exact .inr h
  .exact .inl (QW.2 (.inr (Km _ h)))
def uV{j b:Nat}{p:Bool}{d a:List En}{i c:Nat}{q:Bool}(h:(i,q,some c)∈d++(j,p,none)::a):(i,q,some c)∈d++(j,p,some b)::a:=by
 rcases QW.1 h with h|h
 .exact QW.2 (.inl h)
 .rcases QE.1 h with h|h
  .cases h
  .exact QW.2 (.inr (Km _ h))
def xw.exec{L:ZW}{n:Array Oper}{R:List Nat}(hD:Py n)(QU:base<=w0.w.heap.size){x Z:Nat->Prop}{j:Nat}{p:Bool}{m g:List En}{done:List Nat}{U:Array Bool}{s:St}{r:List Pl}{a:Act}{w:World}(I:xw nc P L n R base nt w0 x Z (m++(j,p,none)::g) done U s r a w)
  {o:Oper} (F:n[j]? = some o) (B:Wn n j=true) {d:Nat} (y:o.dst=some d) {v:Value} {f:Obj} (Zb:(execOp a.eval o).run P w=.ok (.value v) (w.alloc f)) (Q:∀i p' q,(i,p',q)∈m++(j,p,none)::g->q≠none->i≠j) :
  ∃Z',xw nc P L n R base nt w0 x Z' (m++(j,p,some w.heap.size)::g) done (U.setIfInBounds j true) s r (a.put o.dst v) (w.alloc f):=by
 have Qc:=(Wg.1 F).1;have N:(j,p,none)∈m++(j,p,none)::g:=QW.2 (.inr (K8 ..));have e:∀k,k<w.heap.size->(w.alloc f).heap[k]? = w.heap[k]? := λk hk=>kz w f k hk;have Y:(w.alloc f).heap[w.heap.size]? = some f:=heap_alloc_new w f;have Jg:w.heap.size<(w.alloc f).heap.size:=jx Y;have qF:base<=w.heap.size:=K9 QU I.since.1.size;have yB:∀c,c∈blocks (m++(j,p,none)::g)->c<w.heap.size:=λc C=>by
  obtain⟨i,q,hq⟩:=DD.1 C;obtain⟨_,_,_,_,_,_,_,_,_,_,h5,_⟩:=(I.HB i q c hq).run;exact jx h5
 have Xt:w.heap.size ∉ blocks (m++(j,p,none)::g):=λh=>by have:=yB _ h;omega
 have Pz:x w.heap.size:=((I.z _).1 (I.since.2.2.new _ (QB _))).1;have Kn:∀c,c∈blocks (m++(j,p,some w.heap.size)::g)↔c∈blocks (m++(j,p,none)::g)\/c=w.heap.size:=λc=>by
  rw[DD,DD];constructor
  .rintro⟨i,q,h⟩;rcases HC h with h|h
   .exact .inl ⟨i,q,h⟩
   .cases h;exact .inr rfl
  .rintro (⟨i,q,h⟩|rfl)
   .exact⟨i,q,uV h⟩
   .exact⟨j,p,QW.2 (.inr (K8 ..))⟩
 have O:∀c,(x c/\c ∉ blocks (m++(j,p,some w.heap.size)::g))↔Z c/\c≠w.heap.size:=λc=>by
  rw[I.z c,Kn c,YX,and_assoc]
 have V:∀c,free Z r c->c<w.heap.size->free (λc=>x c/\c ∉ blocks (m++(j,p,some w.heap.size)::g)) r c/\(w.alloc f).heap[c]? = w.heap[c]? := λc C Qc=>⟨⟨(O c).2 ⟨C.1,ω⟩,C.2⟩,e c Qc⟩;have vX:∀{d v},Qy Z s.h r w d v->Qy (λc=>x c/\c ∉ blocks (m++(j,p,some w.heap.size)::g)) s.h r (w.alloc f) d v:=λhr=>hr.L6 V (λ_ _ _ a b=>⟨a,b⟩) (λl b q hp=>e b (I.rel.o.lt hp).1);have T:Tr s.h r w s.h r (w.alloc f):=Tr.ext I.rel.o e;refine⟨λc=>x c/\c ∉ blocks (m++(j,p,some w.heap.size)::g),?_,?_,?_,(I.marks.set Qc).same λi=>?_,λi q b h=>?_,λi q u h B=>?_,λc=>Iff.rfl,λi q b h=>?_,gR _ Xt I.UX,λi q u h W E J M K=>?_,⟨by rw[y];simp[Act.put,I.rel.nt],by rw[y];exact I.rel.defers,λt=>?_,I.rel.o.L6 V e⟩,⟨I.since.1.trans (BQ qF f),I.since.2.1.trans T,⟨λc C=>(O c).2 ⟨I.since.2.2.new c ω,ω⟩,λl c q H h0=>(O c).2 ⟨I.since.2.2.own l c q H h0,by have:=(I.rel.o.lt H).1;omega⟩⟩⟩,λi q b h=>?_⟩
 .have:=I.sched;simpa[X7] using this
 .have:=I.cover;simpa[Xi] using this
 .have:=I.Ma;simpa[Xi] using this
 .simp only[QE,QW,HA];constructor
  .rintro (rfl|⟨q,b,h⟩|h)
   .exact .inl ⟨p,_,.inr (.inl rfl)⟩
   .exact .inl ⟨q,b,by have:=uV (b:=w.heap.size) (QW.2 (h.imp id QE.2));simpa using this⟩
   .exact .inr h
  .rintro (⟨q,b,h⟩|h)
   .rcases HC (QW.2 (h.imp id QE.2)) with h|h
    .exact .inr (.inl ⟨q,b,by simpa using h⟩)
    .cases h;exact .inl rfl
   .exact .inr (.inr h)
 .rcases HC h with h|h
  .exact I.late i q b h
  .cases h;exact B
 .rcases HC h with h|h
  .exact I.lp i q u h B
  .cases h;exact I.lp j p none N B
 .rcases HC h with h|h
  .exact I.z0 i q b h
  .cases h;exact Pz
 .rcases HC h with h|h
  .exact I.Px i q u h W E J M K
  .cases h;exact I.Px j p none N W E J M K
 .by_cases S:t=d
  .have:=I.Px j p none N B o d F y;rw[S,this];exact .cl _ _ (.undef _)
  .rw[uS (by rw[y];exact λh=>S (G6 h).symm)];exact vX (I.rel.fr t)
 .rcases HC h with h|h
  .refine(I.HB i q b h).step T v λE J M K=>?_;exact hD i j E o J (Q i q (some b) h σ) (I.late i q b h) M F K
  .cases h;refine⟨⟨o,d,w,a.eval,v,f,F,y,Zb,rfl,Y,λhn=>?_⟩,λl q H=>?_,I.since.1.size⟩
   .have:d<a.tmps.size:=by rw[I.rel.nt];exact hn
    simp[Act.put,y,w9,this]
   .have:=(I.rel.o.lt H).1;omega
def DF(nc:List Nat)(P:Program)(base nt:Nat)(w0:Start)(a:Array Oper)(K:St->Prop):Nat->List Nat->List Nat->St->Prop
 | 0,_,_,s=>K s
 | n+1,R,done,s=>∀i∈R,∀o,a[i]? = some o->jF done o.after.toList=false->AX P base nt w0 (DF nc P base nt w0 a K n (R.erase i) (i::done)) [(false,Yv (KA i nc) o,guardOf a o)] s
def yF(a:Array Oper):List Nat->List Nat->Bool
 | [],_=>true
 | i::r,done=>(match a[i]? with
  | some o=>!jF done o.after.toList
  | none=>false)&&yF a r (i::done)
def gU{done b}(h:∀j∈done,j∈b):∀{l:List Edge},jF done l=false->jF b l=false
 | [],_=>rfl
 | e::r,a=>by
  simp only[jF,EX,EV,Bool.not_eq_false']at a ⊢;exact⟨a.1.imp id λk=>vV.2 (h _ (vV.1 k)),gU h a.2⟩
def uW{a}:∀{R done e:List Nat},(∀j∈done,j∈e)->yF a R done=true->yF a R e=true
 | [],_,_,_,_=>rfl
 | i::r,done,e,h,d=>by
  simp only[yF,ZH]at d ⊢;refine⟨?_,uW (λj c=>by
   rcases QE.1 c with rfl|c
   .exact K8 ..
   .exact Km _ (h j c)) d.2⟩
  have b:=d.1;cases f:a[i]? with
  | none=>rw[f]at b;cases b
  | some o=>
   rw[f]at b;simp only[qZ]at b ⊢;exact gU h b
def uX{a}{j}:∀{R done:List Nat},yF a R done=true->yF a (R.erase j) (j::done)=true
 | [],_,_=>rfl
 | i::r,done,h=>by
  simp only[yF,ZH]at h;by_cases d:i=j
  .subst d;rw[List.erase_cons_head];exact h.2
  .rw[List.erase_cons_tail (by simpa using d)];simp only[yF,ZH];refine⟨?_,uW (λk b=>?_) (uX (j:=j) h.2)⟩
   .have h1:=h.1;cases c:a[i]? with
    | none=>rw[c]at h1;cases h1
    | some o=>
     rw[c]at h1;simp only[qZ]at h1 ⊢;exact gU (λk b=>Km _ b) h1
   .simp only[QE]at b ⊢;rcases b with h1|h1|h1
    .exact .inr (.inl h1)
    .exact .inl h1
    .exact .inr (.inr h1)
def Qko{c:Array Oper}(V:base<=w0.w.heap.size){F}{Z}{i}{o}(u:c[i]? = some o){s:St}{k}{a}{w}(r:Rel Z base nt s k a w)(b:KG Z base w0 s.h k w)
  (h:AX P base nt w0 F [(false,Yv (KA i nc) o,guardOf c o)] s):wpOp P c (λ_ _ _=>False) i (λm f=>vW nc c i w f/\∃g j,F g/\Rel Z base nt g j m f/\KG Z base w0 g.h j f) a w:=by
 have skip:∀(e:St),e.h=s.h->Rel Z base nt e k a w->WQ (guardOf c o) a.tmps=false->Zj nt (Yv (KA i nc) o).dst=true->F ⟨Q8 e.fr (Yv (KA i nc) o).dst (.raw Go.undef),e.h⟩->_:=λe H z B N E=>by
  have n:YieldsIf P c (λ_:World=>True) o Go.undef a:=.inr ⟨by rw[LQ];exact B,rfl⟩;have W:Rel Z base nt ⟨Q8 e.fr o.dst (.raw Go.undef),e.h⟩ k (a.put o.dst Go.undef) w:=z.skip N;exact n.wpOp (P:=P) (Q:=λ_ _ _=>False) (K:=λm f=>vW nc c i w f/\∃g j,F g/\Rel Z base nt g j m f/\KG Z base w0 g.h j f) u trivial ⟨by rw[Hy u];exact .ext (Ext.refl _),_,k,E,W,by rw[show (⟨Q8 e.fr o.dst (.raw Go.undef),e.h⟩:St).h=s.h from H];exact b⟩
 have J:∀(e:St),e.h=s.h->Rel Z base nt e k a w->WQ (guardOf c o) a.tmps=true->WR P base nt w0 false (Yv (KA i nc) o) F e->wpOp P c (λ_ _ _=>False) i (λm f=>vW nc c i w f/\∃g j,F g/\Rel Z base nt g j m f/\KG Z base w0 g.h j f) a w:=λe H z B E=>by
  unfold wpOp;simp only[u,LQ,B,Va];refine .inl ?_;have:=E.ae V Z trivial k a w z (by rw[H];exact b);rw[uP]at this;refine Oper.wp_mono (λm f O=>?_) this;obtain⟨R,d,h',j,v,S,M,U,T,rfl⟩:=O;exact⟨by rw[Hy u];exact R,_,j,S,M,U⟩
 simp only[AX]at h;split at h
 .rename_i l;exact J s rfl r (by rw[l];rfl) h
 .rename_i x l;exact skip s rfl r (by rw[l];rfl) h.1 h.2
 .rename_i t x l;split at h
  .rename_i y n;have p:=r.fr t;rw[n]at p;have C:=Jh p;have I:=gG C;by_cases q:y=x
   .refine J ⟨put s.fr t (.raw (.bool x)),s.h⟩ rfl (r.tell (t:=t) (d:=.raw (.bool x)) (by rw[C,q];exact .cl _ _ (.raw _))) ?_ (h.1 q);rw[l];simp[WQ,I,q]
   .have L:y=(!x):=by cases x<;>cases y<;>simp_all
    have:=h.2 L;refine skip ⟨put s.fr t (.raw (.bool !x)),s.h⟩ rfl (r.tell (t:=t) (d:=.raw (.bool (!x))) (by rw[C,L];exact .cl _ _ (.raw _))) ?_ this.1 this.2;rw[l];simp[WQ,I,q]
  .rename_i Y n;have p:=r.fr t;rw[n]at p;refine skip s rfl r ?_ h.1 h.2;rw[l];simp[WQ,gH (Jh p)]
  .exact h.elim
def gV{c:Array Oper}{K}(J:base<=w0.w.heap.size){Z}:∀(n:Nat) (R done:List Nat) (l:Array Bool) (s:St) (f:List Pl) (a:Act) (w:World),R.length=n->Marks c l done->(∀j,j<c.size->j ∉ done->j∈R)->(∀j∈R,j ∉ done)->R.Nodup->yF c R done=true ->
  Rel Z base nt s f a w->KG Z base w0 s.h f w->DF nc P base nt w0 c K n R done s->yE P c (λa w=>∃s f,K s/\Rel Z base nt s f a w/\KG Z base w0 s.h f w) (vW nc c) n l a w
 | 0,R,done,l,s,f,a,w,t,M,y,B,C,q,r,b,h=>by
  have:R=[]:=G0.1 t;subst this;refine⟨ft.2 λj m=>?_,s,f,h,r,b⟩;obtain⟨g,o,d,_⟩:=mem_ready.1 m;have Qc:=(Wg.1 d).1;have:=y j Qc ((M.get j Qc).1 g);cases this
 | n+1,R,done,l,s,f,a,w,t,M,y,B,C,q,r,b,h=>by
  have ready:∀j o,c[j]? = some o->j ∉ done->jF done o.after.toList=false->j∈Region.ready .any c l:=λj o d m v=>by
   have Qc:=(Wg.1 d).1;exact mem_ready.2 ⟨(M.get j Qc).2 m,o,d,λe x z=>(M.get' e.on).2 ⟨UT v e (by simpa using x) z,M.lt _ (UT v e (by simpa using x) z)⟩⟩
  refine⟨λe=>?_,λj m=>?_⟩
  .cases R with
   | nil=>cases t
   | cons i rr=>
    simp only[yF,ZH]at q;have g:=q.1;split at g
    .rename_i o d;have:=ready i o d (B i (K8 ..)) (by simpa using g);rw[e]at this;cases this
    .cases g
  .obtain⟨g,o,d,JX⟩:=mem_ready.1 m;have Qc:=(Wg.1 d).1;have F:=(M.get j Qc).1 g;have I:=y j Qc F;have v:jF done o.after.toList=false:=by
    cases z:jF done o.after.toList
    .rfl
    .obtain⟨e,x,H,L⟩:=uM z;exact absurd ((M.get' e.on).1 (JX e (by simpa using x) H)).1 L
   refine wpOp_mono (λY N V=>?_) (Qko J d r b (h j I o d v));obtain⟨U,O,Qh,S,Q,W⟩:=V;refine⟨U,gV J n (R.erase j) (j::done) (l.setIfInBounds j true) O Qh Y N (by rw[List.length_erase_of_mem I,t];rfl) (M.set Qc) (λk u p=>?_) (λk u p=>?_) (C.erase _) (uX q) Q W S⟩
   .simp only[QE,YX]at p;exact(List.mem_erase_of_ne p.1).2 (y k u p.2)
   .have E:=List.mem_of_mem_erase u;rcases QE.1 p with rfl|T
    .exact(C.not_mem_erase) u
    .exact B k E T
def Qks{L}(a7:ZU P L){c:Array Oper}{R U:List Nat}{K}(LX:Region.noSelect c=true)(QU:base<=w0.w.heap.size)(hD:Py c)(hL:∀j o,c[j]? = some o->Wn c j=true->(∃ob mk,FG P o ob mk)/\∃d,o.dst=some d){H}(uY:R.Nodup)(uZ:yF c R U=true):
  ∀(m:Nat) (l:List En) (done:List Nat) (E:Array Bool) (s:St) (g:List Pl) (a:Act) (w:World) (Z:Nat->Prop),l.length+X8 l<=m->xw nc P L c R base nt w0 H Z l done E s g a w->(∀j,j∈U↔j∈Xi l\/j∈done)->AX P base nt w0 (DF nc P base nt w0 c K R.length R U) (Vb nc c (X7 l)) s ->
   yE P c (λa w=>∃s g,K s/\Rel H base nt s g a w/\KG H base w0 s.h g w) (vW nc c) (R.length+X8 l) E a w:=by
 intro m;induction m with
 | zero=>
  intro l done E s g a w Z Y I PA h;cases l with
  | cons x r=>simp at Y
  | nil=>
   have hZ:Z=H:=funext λb=>propext (by rw[I.z b];simp[blocks]);subst hZ;have HE:∀j,j∈U↔j∈done:=λj=>by rw[PA j];simp[Xi]
   refine gV QU R.length R U E s g a w rfl (I.marks.same λj=>by rw[HE j];simp[early]) (λj B C=>?_) (λj B=>by rw[HE j];exact(I.Ma j B).1) uY uZ I.rel I.since h;have:=I.cover j B (λh=>C ((HE j).2 h));simpa[Xi] using this
 | succ m ih=>
  intro l done E s g a w Z Y I PA h;cases l with
  | nil=>
   have hZ:Z=H:=funext λb=>propext (by rw[I.z b];simp[blocks]);subst hZ;have HE:∀j,j∈U↔j∈done:=λj=>by rw[PA j];simp[Xi]
   refine gV QU R.length R U E s g a w rfl (I.marks.same λj=>by rw[HE j];simp[early]) (λj B C=>?_) (λj B=>by rw[HE j];exact(I.Ma j B).1) uY uZ I.rel I.since h;have:=I.cover j B (λh=>C ((HE j).2 h));simpa[Xi] using this
  | cons x r=>
   obtain⟨i,p,q⟩:=x;obtain⟨o,J,Z3,u0,a6,a5,yv⟩:=I.head;have Qc:=(Wg.1 J).1;have vY:Vb nc c (X7 ((i,p,q)::r))=(p,Yv (KA i nc) o,guardOf c o)::Vb nc c (X7 r):=by simp[Vb,X7,J]
   rw[vY]at h;have DE:∀j∈early ((i,p,q)::r),Wn c j=true:=λj B=>by obtain⟨p',b,S⟩:=HA.1 B;exact I.late j p' b S
   have QA:∀j p q,(j,p,q)∈r->j≠i:=λj p q B e=>UY yv j (gT B) (by rw[e];simp);have U4:∀j,j∈U↔j∈Xi r\/j∈i::done:=λj=>by
    rw[PA j];simp only[Xi,JN,QE];constructor
    .rintro ((h|h)|h)
     .exact .inr (.inl h)
     .exact .inl h
     .exact .inr (.inr h)
    .rintro (h|h|h)
     .exact .inl (.inr h)
     .exact .inl (.inl h)
     .exact .inr h
   cases q with
   | some b=>
    have Mb:=I.late i p b (K8 ..);obtain⟨g1,g2,_⟩:=UZ J Mb;have hp:=I.lp i p _ (K8 ..) Mb;subst hp;have hg:guardOf c o=none:=by simp[guardOf,g2]
    rw[hg]at h;simp only[AX,WR]at h;rw[show Y7 (Yv (KA i nc) o)=true from g1]at h;obtain⟨ob,mk,h1,h2,h3⟩:=h;obtain⟨Z',I'⟩:=I.gO hD QU J (show FG P o ob mk from h1) h2;have:=ih r (i::done) E _ _ a w Z' (by simp only[VK,X8]at Y;omega) I' U4 h3;exact this
   | none=>
    have HF:i ∉ early ((i,p,none)::r)++done:=λY=>by
     rcases QW.1 Y with h1|h1
     .obtain⟨p',b,S⟩:=HA.1 h1;rcases QE.1 S with h2|h2
      .cases h2
      .exact QA _ _ _ h2 rfl
     .exact Z3 h1
    have gW:i∈Region.ready .any c E:=mem_ready.2 ⟨(I.marks.get i Qc).2 HF,o,J,λe u S=>(I.marks.get' e.on).2 ⟨QW.2 (.inr (u0 e u S)),I.marks.lt _ (QW.2 (.inr (u0 e u S)))⟩⟩;have LI:r.length+X8 r<=m:=by simp only[VK,X8]at Y;omega
    have first:p=true->∀(f:St) (v:Value),f.h=s.h->YieldsIf P c (λn=>(still L o=true\/Ext w n)\/(B1 o=true/\zI w n)) o v a ->
      Rel Z base nt f g (a.put o.dst v) w->(∀d,o.dst≠some d->get s.fr d=.undef->get f.fr d=.undef)->AX P base nt w0 (DF nc P base nt w0 c K R.length R U) (Vb nc c (X7 r)) f->yE P c (λa w=>∃s g,K s/\Rel H base nt s g a w/\KG H base w0 s.h g w) (vW nc c) (R.length+X8 r+1) E a w:=by
     intro hp f v hh O W hu Q;have I':=I.next hD J v (s':=f) (by rw[hh];exact Tr.refl _ _ _) W (by rw[hh];exact I.since) hu;have U5:=ih r (i::done) (E.setIfInBounds i true) f g (a.put o.dst v) w Z LI I' U4 Q;refine Qkg (λw=>by rw[Hy J];exact .ext (Ext.refl _)) J (Region.noSelect_spec LX) _ E a w (.inl (.inr (Ext.refl _))) (λj oj B kP a2=>?_) gW O U5;have PB:=(Wg.1 B).1;have PC:=(I.marks.get j PB).1 a2;have PD:=I.cover j PB λC=>PC (QW.2 (.inr C));simp only[Xi,JN,QE]at PD;have X9:∃y∈(X7 r).map (λN=>(N.1,N.2,c[N.1]?))++Hz c R,y.1=j/\y.2.2=c[j]? := by
      rcases PD with (h|h)|h
      .exact absurd h kP
      .obtain⟨y,q7,kE⟩:=Jm.1 h;exact⟨(y.1,y.2.1,c[y.1]?),QW.2 (.inl (Jm.2 ⟨(y.1,y.2.1),Jm.2 ⟨y,q7,rfl⟩,rfl⟩)),kE,by rw[kE]⟩
      .exact⟨(j,false,c[j]?),QW.2 (.inr (Jm.2 ⟨j,h,rfl⟩)),rfl,rfl⟩
     obtain⟨y,q7,kE,a8⟩:=X9;have:=uT I.marks DE (r:=(X7 r).map (λN=>(N.1,N.2,c[N.1]?))++Hz c R) (λx hx=>by
      rcases QW.1 hx with hx|hx
      .obtain⟨z,_,rfl⟩:=Jm.1 hx;rfl
      .obtain⟨z,_,rfl⟩:=Jm.1 hx;rfl) (a6 hp).2 y q7 oj (by rw[kE];exact B)
     rw[kE]at this;refine this.imp id λh=>⟨λw1 w2 hc hs=>?_,h.2⟩;rw[Hy B]at hc;rcases h.1 with (h1|h1)|h1
     .have u:=hc.calm (by rw[Qki];simp[h1.1,h1.2]);rcases hs with (hs|hs)|hs
      .exact .inl (.inl hs)
      .exact .inl (.inr (hs.trans u))
      .exact .inr ⟨hs.1,hs.2.trans (.ext u)⟩
     .exact .inl (.inl h1)
     .have u:=hc.ins (by simpa[B2,Yv] using h1.2);rcases hs with (hs|hs)|hs
      .exact .inl (.inl hs)
      .exact .inr ⟨h1.1,(zI.ext hs).trans u⟩
      .exact .inr ⟨hs.1,hs.2.trans u⟩
    have V:p=false->wpOp P c (λ_ _ _=>False) i (λa' n=>vW nc c i w n/\yE P c (λa w=>∃s g,K s/\Rel H base nt s g a w/\KG H base w0 s.h g w) (vW nc c) (R.length+X8 r) (E.setIfInBounds i true) a' n) a w ->
      yE P c (λa w=>∃s g,K s/\Rel H base nt s g a w/\KG H base w0 s.h g w) (vW nc c) (R.length+X8 r+1) E a w:=by
     intro hp hi;refine⟨λe=>(by rw[e]at gW;cases gW),λj B=>?_⟩;by_cases kP:j=i
     .subst kP;exact hi
     .obtain⟨UQ,oj,Ko,JX⟩:=mem_ready.1 B;have PB:=(Wg.1 Ko).1;have PC:=(I.marks.get j PB).1 UQ;have PD:=I.cover j PB λC=>PC (QW.2 (.inr C));simp only[Xi,JN,QE]at PD;have u6:=λx hx=>uR (r:=(X7 r).map (λN=>(N.1,N.2,c[N.1]?))++Hz c R) (λx hx=>by
       rcases QW.1 hx with hx|hx
       .obtain⟨z,_,rfl⟩:=Jm.1 hx;rfl
       .obtain⟨z,_,rfl⟩:=Jm.1 hx;rfl) (a5 hp) x hx
      have a0:L7 c done i oj.after.toList=true->False:=λh1=>by
       obtain⟨e,u,S,xy,DG⟩:=uQ h1;have h2:=((I.marks.get' e.on).1 (JX e (by simpa using u) S)).1;rcases QW.1 h2 with h3|h3
       .rcases DG with h4|h4
        .rw[DE _ h3]at h4;cases h4
        .exact HF (QW.2 (.inl (by rw[<- h4];exact h3)))
       .exact xy h3
      have U3:j ∉ R:=λh=>by
       rcases u6 (j,false,c[j]?) (QW.2 (.inr (Jm.2 ⟨j,h,rfl⟩))) oj Ko with h1|h1
       .have h9:Wn c j=true:=h1;rw[(I.Ma j h).2.2]at h9;cases h9
       .exact a0 h1
      obtain⟨y,q7,kE⟩:=Jm.1 ((PD.resolve_right U3).resolve_left kP);obtain⟨M,pj,qj⟩:=y;obtain rfl:M=j:=kE;have a3:qj=none:=by
       cases qj with
       | none=>rfl
       | some b=>exact absurd (QW.2 (.inl (HA.2 ⟨pj,b,Km _ q7⟩))) PC
      subst a3;have gX:Wn c M=true:=by
       rcases u6 (M,pj,c[M]?) (QW.2 (.inl (Jm.2 ⟨(M,pj),Jm.2 ⟨_,q7,rfl⟩,rfl⟩))) oj Ko with h1|h1
       .exact h1
       .exact(a0 h1).elim
      obtain⟨g1,g2,_⟩:=UZ Ko gX;obtain⟨⟨ob,mk,obj,a1,k1,_⟩,d,C⟩:=hL M oj Ko gX;obtain⟨F,r2,W⟩:=List.append_of_mem q7;have hl:(i,p,none)::r=((i,p,none)::F)++(M,pj,none)::r2:=by rw[W];rfl
      have I0:=I;rw[hl]at I0;obtain⟨Z',I'⟩:=I0.exec hD QU Ko gX C (k1 a.eval w) (λi' p' q' Y hq e=>by
       subst e;rw[<- hl]at Y;cases q' with
       | none=>exact hq rfl
       | some b=>exact PC (QW.2 (.inl (HA.2 ⟨p',b,Y⟩))))
      have hc:X8 r=X8 (((i,p,none)::F)++(M,pj,some w.heap.size)::r2):=by
       have:=gP (j:=M) (p:=pj) (b:=w.heap.size) (l2:=r2) ((i,p,none)::F);rw[<- hl]at this;simp only[X8]at this;omega
      have gY:X7 (((i,p,none)::F)++(M,pj,some w.heap.size)::r2)=X7 ((i,p,none)::r):=by rw[hl];simp[X7]
      have U5:=ih _ done (E.setIfInBounds M true) s g (a.put oj.dst (a1 w.heap.size)) (w.alloc obj) Z' (by
       have h1:(((i,p,none)::F)++(M,pj,some w.heap.size)::r2).length=r.length+1:=by rw[W];simp
       have h2:r.length+1+(X8 r+1)<=m+1:=Y;rw[h1,<- hc];omega) I' (λk=>by rw[PA k];rw[hl];simp[Xi]) (by rw[gY,vY];exact h)
      rw[<- hc]at U5;unfold wpOp;simp only[Ko];have hw:Region.wanted oj (yielded c a.tmps)=true:=by simp[Region.wanted,g2]
      rw[Qf hw];refine .inl ?_;unfold Oper.wp;rw[k1 a.eval w];simp only[Oper.upon_value];exact⟨by rw[Hy Ko];exact .ext λk Q=>kz w obj k Q,U5⟩
    have skip:∀(f:St),f.h=s.h->Rel Z base nt f g a w->(∀d,get s.fr d=.undef->get f.fr d=.undef)->WQ (guardOf c o) a.tmps=false->Zj nt (Yv (KA i nc) o).dst=true->AX P base nt w0 (DF nc P base nt w0 c K R.length R U) (Vb nc c (X7 r)) ⟨Q8 f.fr (Yv (KA i nc) o).dst (.raw Go.undef),f.h⟩ ->
      yE P c (λa w=>∃s g,K s/\Rel H base nt s g a w/\KG H base w0 s.h g w) (vW nc c) (R.length+X8 r+1) E a w:=by
     intro f hh F hu hw ht Q;have O:YieldsIf P c (λn=>(still L o=true\/Ext w n)\/(B1 o=true/\zI w n)) o Go.undef a:=.inr ⟨by rw[LQ];exact hw,rfl⟩;have JA:Rel Z base nt ⟨Q8 f.fr o.dst (.raw Go.undef),f.h⟩ g (a.put o.dst Go.undef) w:=F.skip ht;have xz:∀d,o.dst≠some d->get s.fr d=.undef->get (Q8 f.fr o.dst (.raw Go.undef)) d=.undef:=λd C h=>by rw[UW C];exact hu d h
     cases p with
     | true=>exact first rfl ⟨Q8 f.fr o.dst (.raw Go.undef),f.h⟩ Go.undef hh O JA xz Q
     | false=>
      refine V rfl (O.wpOp J (.inl (.inr (Ext.refl _))) ⟨by rw[Hy J];exact .ext (Ext.refl _),?_⟩);have I':=I.next hD J Go.undef (s':=⟨Q8 f.fr o.dst (.raw Go.undef),f.h⟩) (by rw[show (⟨Q8 f.fr o.dst (.raw Go.undef),f.h⟩:St).h=s.h from hh];exact Tr.refl _ _ _) JA (by rw[show (⟨Q8 f.fr o.dst (.raw Go.undef),f.h⟩:St).h=s.h from hh];exact I.since) xz;exact ih r (i::done) _ _ g _ w Z LI I' U4 Q
    have go:∀(f:St),f.h=s.h->Rel Z base nt f g a w->(∀d,get s.fr d=.undef->get f.fr d=.undef)->WQ (guardOf c o) a.tmps=true->WR P base nt w0 p (Yv (KA i nc) o) (AX P base nt w0 (DF nc P base nt w0 c K R.length R U) (Vb nc c (X7 r))) f ->
      yE P c (λa w=>∃s g,K s/\Rel H base nt s g a w/\KG H base w0 s.h g w) (vW nc c) (R.length+X8 r+1) E a w:=by
     intro f hh F hu hw Q;cases p with
     | true=>
      obtain⟨d,Ui,zS,ht,Q⟩:=Q;have JX:∃v,Qy Z f.h g w d v/\(∀n:World,(∀b,b<w.heap.size->n.heap[b]? = w.heap[b]?)->(execOp a.eval o).run P n=.ok (.value v) n)/\(B1 o=true->∀n:World,zI w n->(execOp a.eval o).run P n=.ok (.value v) n):=by
       cases PE:B1 o
       .obtain⟨v,hv,Zb⟩:=Ui Z g a w F;exact⟨v,hv,Zb,λh=>by cases h⟩
       .obtain⟨v,hv,Zb⟩:=zS (by simpa[B1,Yv] using PE) Z g a w F;exact⟨v,hv,λn u=>Zb n (.ext u),λ_=>Zb⟩
      obtain⟨v,hv,Zb,a4⟩:=JX;have O:YieldsIf P c (λn=>(still L o=true\/Ext w n)\/(B1 o=true/\zI w n)) o v a:=.inl ⟨by rw[LQ];exact hw,λn u=>u.elim (λu=>u.elim (λhs=>Qkf a7 hs (Zb w λ_ _=>rfl) n) (λu=>Zb n u)) (λu=>a4 u.1 n u.2)⟩;have r2:Rel Z base nt ⟨Q8 f.fr o.dst d,f.h⟩ g (a.put o.dst v) w:=by
       cases C:o.dst with
       | none=>exact F
       | some t=>have ht:Zj nt o.dst=true:=ht;rw[C]at ht;exact F.to (Tr.ext F.o λ_ _=>rfl) F.o (zQ ht) hv
      exact first rfl ⟨Q8 f.fr o.dst d,f.h⟩ v hh O r2 (λd' C h=>by rw[UW C];exact hu d' h) Q
     | false=>
      refine V rfl ?_;unfold wpOp;simp only[J,LQ,hw,Va];refine .inl ?_;have:=Q.ae QU Z trivial g a w F (by rw[hh];exact I.since);rw[uP]at this;refine Oper.wp_mono (λa' n hq=>?_) this;obtain⟨u,d,h',Qh,v,hF,r',b',T,rfl⟩:=hq;refine⟨by rw[Hy J];exact u,?_⟩;have I':=I.next hD J v (s':=⟨Q8 f.fr o.dst d,h'⟩) (by rw[hh]at T;exact T) r' b' (λd' C h=>by rw[UW C];exact hu d' h);exact ih r (i::done) _ _ Qh _ n Z LI I' U4 hF
    show yE P c _ (vW nc c) (R.length+X8 r+1) E a w;simp only[AX]at h;split at h
    .rename_i hg;exact go s rfl I.rel (λ_ h=>h) (by rw[hg];rfl) h
    .rename_i x hg;exact skip s rfl I.rel (λ_ h=>h) (by rw[hg];rfl) h.1 h.2
    .rename_i t x hg;split at h
     .rename_i y O;have W:=I.rel.fr t;rw[O]at W;have hv:=Jh W;have S:=gG hv;have B0:∀(e:D) d,get s.fr d=.undef->get (put s.fr t e) d=.undef:=λe d h=>by
       rw[Dm,Qe (λe=>by rw[e,O]at h;cases h)];exact h
      by_cases kB:y=x
      .refine go ⟨put s.fr t (.raw (.bool x)),s.h⟩ rfl (I.rel.tell (t:=t) (d:=.raw (.bool x)) (by rw[hv,kB];exact .cl _ _ (.raw _))) (B0 _) ?_ (h.1 kB);rw[hg];simp[WQ,S,kB]
      .have Fy:y=(!x):=by cases x<;>cases y<;>simp_all
       have:=h.2 Fy;refine skip ⟨put s.fr t (.raw (.bool !x)),s.h⟩ rfl (I.rel.tell (t:=t) (d:=.raw (.bool (!x))) (by rw[hv,Fy];exact .cl _ _ (.raw _))) (B0 _) ?_ this.1 this.2;rw[hg];simp[WQ,S,kB]
     .rename_i vs O;have W:=I.rel.fr t;rw[O]at W;refine skip s rfl I.rel (λ_ h=>h) ?_ h.1 h.2;rw[hg];simp[WQ,gH (Jh W)]
     .exact h.elim
def u7:Option Nat->Option Nat->Bool
 | some a,some b=>!Nat.beq a b
 | _,_=>true
def u9(a:Array Oper):Bool:=(List.range a.size).all λi=>!Wn a i || (List.range a.size).all λj=>Nat.beq i j || u7 ((a[i]?).bind (·.dst)) ((a[j]?).bind (·.dst))
def Qaa:D->Bool
 | .undef=>true
 | _=>false
def AP(a:Array Oper)(b:List (Nat × D)):Bool:=(List.range a.size).all λi=>!Wn a i || (match (a[i]?).bind (·.dst) with|some d=>Qaa (get b d)|none=>true)
def Qab(L:ZW)(a:Array Oper):Bool:=a.toList.all λo=>match o.op with
 | .alloc t=>(ty L t).isSome&&o.dst.isSome
 | .makeMap _ none=>o.dst.isSome
 | _=>true
def U6(a:Array Oper)(l:List (Nat × Bool)):List Nat->Bool
 | []=>true
 | i::r=>!KA i r&&!KA i (l.map (·.1))&&!Wn a i&&U6 a l r
def U7{a}{l:List (Nat × Bool)}:∀{R:List Nat},U6 a l R=true->R.Nodup/\∀i∈R,i ∉ l.map (·.1)/\Wn a i=false
 | [],_=>⟨List.nodup_nil,σ⟩
 | i::r,h=>by
  simp only[U6,ZH,qZ]at h;obtain⟨⟨⟨e,d⟩,m⟩,k⟩:=h;obtain⟨g,f⟩:=U7 k;refine⟨ZN.2 ⟨λb=>(by rw[vV.2 b]at e;cases e),g⟩,λj c=>?_⟩;rcases QE.1 c with rfl|c
  .exact⟨λb=>(by rw[vV.2 b]at d;cases d),m⟩
  .exact f j c
def B4(nc:List Nat)(L:ZW)(a:Array Oper)(l:List (Nat × Bool))(R:List Nat):Bool:=Region.noSelect a&&Nat.beq (R.length+l.length) a.size&&US (l.map (·.1)++R) a.size&&DC nc L a R (l.map λb=>(b.1,b.2,a[b.1]?)) []&&u9 a&&Qab L a&&U6 a l R&&yF a R (l.map (·.1))
def U8(L:ZW)(a:Array Oper)(l:List (Nat × Bool)):Bool:=B4 [] L a l []
def Qkz{a}(h:u9 a=true):Py a:=by
 intro i j o n d m k e c l b;have g:=YS.1 h i (G1.2 (Wg.1 e).1);rw[k,De,OC]at g;have f:=YS.1 g j (G1.2 (Wg.1 c).1);simp only[e,c,TJ,l,b,u7,Lu,De,Bool.or_false,VL]at f;exact m f
def QkB{a:Array Oper}{e}(h:AP a e=true):∀i o d,Wn a i=true->a[i]? = some o->o.dst=some d->get e d=.undef:=by
 intro i o d f c g;have b:=YS.1 h i (G1.2 (Wg.1 c).1);rw[f]at b;simp only[De,OC,c,TJ,g]at b;unfold Qaa at b;split at b
 .assumption
 .cases b
def QkC{P}{L}(n:ZU P L){a:Array Oper}(h:Qab L a=true):∀j o,a[j]? = some o->Wn a j=true->(∃i mk,FG P o i mk)/\∃d,o.dst=some d:=by
 intro j o f m;have c:=(UZ f m).1;have l:o∈a.toList:=by have:=Array.mem_of_getElem? f;simpa using this
 have b:=YS.1 h o l;unfold Y7 at c;cases e:o.op<;>rw[e]at c b<;>first|cases c|skip
 .rename_i t;simp only[ZH]at b;obtain⟨y,k⟩:=Dj.1 b.1;exact⟨⟨_,_,uN n e k⟩,Dj.1 b.2⟩
 .rename_i t g;cases g with
  | some x=>cases c
  | none=>exact⟨⟨_,_,uO e .i64⟩,Dj.1 b⟩
def Qac{L}{a:Array Oper}{R}:∀{l:List (Nat × Bool)} {done:List Nat},DC nc L a R (l.map λb=>(b.1,b.2,a[b.1]?)) done=true->∀i p,(i,p)∈l->Wn a i=true->p=false
 | [],_,_,_,_,h,_=>by cases h
 | (j,q)::r,done,h,i,p,e,d=>by
  simp only[JN]at h;cases c:a[j]? with
  | none=>rw[c]at h;cases h
  | some o=>
   rw[c]at h;simp only[DC,ZH,qZ]at h;rcases QE.1 e with h1|h1
   .cases h1;cases q with
    | false=>rfl
    | true=>have:=h.1.2;simp only[ZH,qZ,d]at this;cases this.1
   .exact Qac h.2 i p h1 d
def AQ(l:List (Nat × Bool)):List En:=l.map λx=>(x.1,x.2,none)
def gZ:∀l:List (Nat × Bool),X7 (AQ l)=l
 | []=>rfl
 | x::r=>congrArg (x::·) (gZ r)
def Qad:∀l,early (AQ l)=[]
 | []=>rfl
 | (_,_)::r=>Qad r
def ie:∀l,blocks (AQ l)=[]
 | []=>rfl
 | (_,_)::r=>ie r
def Qae:∀l,X8 (AQ l)=l.length
 | []=>rfl
 | (_,_)::r=>by show X8 (AQ r)+1=_;rw[Qae r];rfl
def U9{l}{i}{p}{q}(h:(i,p,q)∈AQ l):(i,p)∈l/\q=none:=by
 obtain⟨x,hx,e⟩:=Jm.1 h;cases e;exact⟨hx,rfl⟩
def Qaf{L}(n:ZU P L)(W:base<=w0.w.heap.size){x}{c}{Q}{s:St}(C:P.follows .mixedOrders=true)(l:List (Nat × Bool))(R:List Nat)(t:B4 nc L c l R=true)(F:AP c s.fr=true)(h:AX P base nt w0 (DF nc P base nt w0 c (λs=>Q .normal s) R.length R (l.map (·.1))) (Vb nc c l) s):A P base nt w0 (.region x c true) Q s:=by
 intro Z z g a w r b;simp only[B4,ZH]at t;obtain⟨⟨⟨⟨⟨⟨⟨U,T⟩,S⟩,v⟩,O⟩,N⟩,K⟩,J⟩:=t;obtain⟨H,u⟩:=U7 K;have f:=OL T;have M:Marks c (Array.replicate c.size false) []:=⟨σ,λj e=>by simp[e],λj=>by
  rcases Ar j c.size with m|m
  .simp[m]
  .simp[m],λj e=>by cases e⟩
 have V:KG Z base w0 s.h g { w with drawn:=w.drawn+1 }:=⟨⟨b.1.os,b.1.tape,b.1.output,b.1.size,b.1.block⟩,⟨b.2.1.Kg,b.2.1.obj,b.2.1.shape⟩,⟨b.2.2.new,b.2.2.own⟩⟩;have I:xw nc P L c R base nt w0 Z Z (AQ l) [] (Array.replicate c.size false) s g a { w with drawn:=w.drawn+1 }:=by
  refine⟨by rw[gZ];exact v,λj e _=>?_,λj e=>⟨σ,by have:=(u j e).1;simpa[Xi,AQ] using this,(u j e).2⟩,by rw[Qad];exact M,λi p b h=>?_,λi p q h k=>Qac v i p (U9 h).1 k,λb=>by rw[ie];simp,λi p b h=>?_,by rw[ie];exact List.nodup_nil,λi p q h k o d y E=>QkB F i o d k y E,r.ext λ_ _=>rfl,V,λi p b h=>?_⟩
  .have:=uK S j e;simpa[Xi,AQ] using this
  .cases (U9 h).2
  .cases (U9 h).2
  .cases (U9 h).2
 have:=Qks n U W (Qkz O) (QkC n N) H J _ (AQ l) [] _ s g a _ Z (QB _) I (λj=>by simp[Xi,AQ]) (by rw[gZ];exact h);rw[Qae,f]at this;exact wp_region_any C (UP (λa w B=>B) _ _ _ _ this)
def QkD{L}(e:ZU P L)(g:base<=w0.w.heap.size){b}{a}{Q}{s:St}(c:P.follows .mixedOrders=true)(l)(f:U8 L a l=true)(d:AP a s.fr=true)(h:AX P base nt w0 (λs=>Q .normal s) (Vb [] a l) s):A P base nt w0 (.region b a true) Q s:=
 Qaf e g c l [] f d h
def QkE{L}(e:ZU P L)(g:base<=w0.w.heap.size){b}{a}{Q}{k}{s:St}(c:P.follows .mixedOrders=true)(l)(f:U8 L a l=true)(d:AP a s.fr=true)(h:AX P base nt w0 (λs=>Qr P base nt w0 Q k .normal s) (Vb [] a l) s):Qr P base nt w0 Q (.code (.region b a true)::k) .normal s:=by
 simp only[Qr];exact QkD e g c l f d h
def Qag{L}(e:ZU P L)(g:base<=w0.w.heap.size){b}{a}{Q}{k}{s:St}(c:P.follows .mixedOrders=true)(l:List (Nat × Bool))(R:List Nat)(f:B4 nc L a l R=true)(d:AP a s.fr=true)(h:AX P base nt w0 (DF nc P base nt w0 a (λs=>Qr P base nt w0 Q k .normal s) R.length R (l.map (·.1))) (Vb nc a l) s):Qr P base nt w0 Q (.code (.region b a true)::k) .normal s:=by
 simp only[Qr];exact Qaf e g c l R f d h
end
section
variable (P:Program)(base:Nat)(w0:Start)(X:Cx)(nt:Nat)
def HG(a:Bool)(o:Oper)(F:St->Prop)(stop:Prop)(s:St):Prop:=match xu X s o.op with
 | some (p,d)=>p/\Zj nt o.dst=true/\F ⟨Q8 s.fr o.dst d,s.h⟩
 | none=>match a with
  | true=>False
  | false=>match yD X s o.op with
   | some (p,h,d)=>p/\Zj nt o.dst=true/\F ⟨Q8 s.fr o.dst d,h⟩
   | none=>stop
def R4(K:St->Prop):List (Bool × Oper × G)->St->Prop
 | [],s=>K s
 | (a,o,g)::r,s=>match g with
  | none=>HG X nt a o (R4 K r) (AX P base nt w0 K ((a,o,none)::r) s) s
  | some (none,_)=>Zj nt o.dst=true/\R4 K r ⟨Q8 s.fr o.dst (.raw Go.undef),s.h⟩
  | some (some t,b)=>match get s.fr t with
   | .raw (.bool x)=>(Dx b x=true->HG X nt a o (R4 K r) (AX P base nt w0 K ((a,o,none)::r) ⟨put s.fr t (.raw (.bool b)),s.h⟩) ⟨put s.fr t (.raw (.bool b)),s.h⟩) /\
     (Dx b x=false->Zj nt o.dst=true/\R4 K r ⟨Q8 (put s.fr t (.raw (.bool (!b)))) o.dst (.raw Go.undef),s.h⟩)
   | .raw (.tuple _)=>Zj nt o.dst=true/\R4 K r ⟨Q8 s.fr o.dst (.raw Go.undef),s.h⟩
   | _=>False
end
section
variable {nc:List Nat}{P:Program}{base nt:Nat}{w0:Start}
def QkF{X}(H:qE P X)(QU:base<=w0.w.heap.size){B}{o}{F N}{stop}{s}(S:∀s,F s->N s)(O:stop->WR P base nt w0 B o N s)(h:HG X nt B o F stop s):WR P base nt w0 B o N s:=by
 unfold HG at h;split at h
 .rename_i p d c;have E:=uv (P:=P) (base:=base) (nt:=nt) H c h.1;have i:=S _ h.2.2;cases B with
  | true=>
   refine⟨d,E,λM=>?_,h.2.1,i⟩;unfold B1 at M;split at M
   .rename_i t x e;simp only[xu,e]at c;exact tq H.L e c h.1
   .cases M
  | false=>
   have f:Y7 o=false:=by
    cases f:Y7 o with
    | false=>rfl
    | true=>
     unfold Y7 at f;cases e:o.op<;>rw[e]at f<;>first|cases f|skip
     all_goals
      rw[e]at c;simp[xu]at c
   simp only[WR,f];intro Z z C a w r b;obtain⟨v,I,j⟩:=E Z C a w r;unfold Oper.wp;rw[j w λ_ _=>rfl];simp only[Oper.upon_value];refine⟨.ext (Ext.refl _),_,_,C,v,i,?_,b,Tr.refl _ _ _,rfl⟩;cases K:o.dst with
   | none=>exact r
   | some t=>have g:=h.2.1;rw[K]at g;exact r.to (Tr.ext r.o λ_ _=>rfl) r.o (zQ g) I
 .split at h
  .exact h.elim
  .split at h
   .rename_i p T d c;have E:=uw (P:=P) (base:=base) (nt:=nt) H c h.1;have i:=S _ h.2.2;have g:=h.2.1;cases f:Y7 o with
    | true=>
     unfold Y7 at f;cases e:o.op<;>rw[e]at f<;>first|cases f|skip
     .rename_i t;simp only[e,yD]at c;split at c
      .rename_i y Y;simp only[QX,Q9]at c;obtain⟨_,rfl,rfl⟩:=c;have f:Y7 o=true:=by simp[Y7,e]
       simp only[WR,f];exact⟨_,_,uN H.L e Y,g,i⟩
      .cases c
     .rename_i t W;cases W with
      | some x=>cases f
      | none=>
       simp only[e,yD]at c;have hq:∃q,T=s.h++[QM q 0 []]/\d=.mref s.h.length 0:=by
        unfold LN at c;split at c
        .split at c;all_goals
          simp only[QX,Q9]at c;obtain⟨_,rfl,rfl⟩:=c;exact⟨_,rfl,rfl⟩
        .cases c
       obtain⟨q,rfl,rfl⟩:=hq;have f:Y7 o=true:=by simp[Y7,e]
       simp only[WR,f];exact⟨_,_,uO e q,g,i⟩
    | false=>
    simp only[WR,f];intro Z z C a w r b;have n:B2 o=false:=by
     cases J:B2 o with
     | false=>rfl
     | true=>
      unfold B2 at J;split at J
      .rename_i e;simp[yD,e]at c
      .cases J
    obtain⟨v,V,L,j,k,R,I,Q,U⟩:=E Z C a w r (K9 QU b.1.size);have m:∀u,u=v->Rel Z base nt ⟨Q8 s.fr o.dst d,T⟩ L (a.put o.dst u) V:=by
     rintro u rfl;cases K:o.dst with
     | none=>exact r.ym k R u
     | some t=>rw[K]at g;exact r.to k R (zQ g) I
    unfold Oper.wp;rcases j with j|⟨j,hu⟩
    .rw[j];simp only[Oper.upon_value];exact⟨.mk (λl=>U (by simp only[DB,ZH]at l;exact l.1)) n,_,_,L,_,i,m v rfl,b.step k Q,k,rfl⟩
    .rw[j];simp only[Oper.upon_skip];exact⟨.mk (λl=>U (by simp only[DB,ZH]at l;exact l.1)) n,_,_,L,_,i,m _ hu.symm,b.step k Q,k,rfl⟩
   .exact O h
def DH{X}(a:qE P X)(c:base<=w0.w.heap.size){K}:∀(l:List (Bool × Oper × G)) (s:St),R4 P base w0 X nt K l s->AX P base nt w0 K l s
 | [],s,h=>h
 | (d,o,g)::r,s,h=>by
  have f:∀s,HG X nt d o (R4 P base w0 X nt K r) (AX P base nt w0 K ((d,o,none)::r) s) s->WR P base nt w0 d o (AX P base nt w0 K r) s:=λs i=>
   QkF a c (λs=>DH a c r s) (λh=>h) i
  simp only[R4]at h;simp only[AX];split at h
  .exact f s h
  .exact⟨h.1,DH a c r _ h.2⟩
  .rename_i t b;split at h
   .rename_i x hx;simp only[ux,zH,jv,ne_eq]at h;refine⟨λe=>f _ (h.1 e),λe=>?_⟩;have:=h.2 (by rw[e];cases b<;>simp);exact⟨this.1,DH a c r _ this.2⟩
   .exact⟨h.1,DH a c r _ h.2⟩
   .exact h.elim
def Xu(a:D):D->Prop
 | .imm z n r=>match a with
  | .imm b e d=>b=z/\e=n/\∀i,i<n->d i=r i
  | _=>False
 | .raw v=>a=.raw v
 | .nil=>a=.nil
 | .undef=>a=.undef
 | .ip c=>a=.ip c
 | .ref l g o n=>a=.ref l g o n
 | .ptr l g i j=>a=.ptr l g i j
 | .mref l g=>a=.mref l g
 | .clo f n c=>a=.clo f n c
 | .agg c=>a=.agg c
 | .tup c=>a=.tup c
def Ke:List D->List D->Prop
 | [],[]=>True
 | b::a,d::r=>Xu b d/\Ke a r
 | _,_=>False
def QkH{N}{w}{g d}{v}(h:Xu g d)(c:Cl N w g v):Cl N w d v:=by
 cases d<;>simp only[Xu]at h;case imm z n r=>
  split at h
  .obtain⟨rfl,rfl,h⟩:=h;cases c with
   | imm _ _ _ a f b o k t p l s m=>
    exact .imm _ _ _ a f b o k t p (λi e=>by rw[<- h i e];exact l i e) s (λi j e q=>by rw[<- h i e];exact m i j e q)
  .exact h.elim
 all_goals subst h;exact c
def Qai:∀{a b:List D},Ke a b->a.length=b.length/\∀i,i<b.length->Xu (nth a i) (nth b i)
 | [],[],_=>⟨rfl,λi c=>by simp at c⟩
 | [],_::_,h=>h.elim
 | _::_,[],h=>h.elim
 | j::g,d::r,h=>by
  obtain⟨f,e⟩:=Qai h.2;refine⟨by simp[f],λi c=>?_⟩;cases i with
  | zero=>exact h.1
  | succ i=>have:=e i (by simpa using c);simpa[nth] using this
def QkI{Z}{h}{a}{w}{b d}{v}(e:Xu b d)(r:Qy Z h a w b v):Qy Z h a w d v:=by
 cases d<;>simp only[Xu]at e;case imm z n c=>
  split at e
  .cases r with
   | cl _ _ f=>exact .cl _ _ (QkH (d:=.imm z n c) (by simpa only[Xu] using e) f)
  .exact e.elim
 all_goals subst e;exact r
def QI.args{P}{f}{F}{a b}{R}(h:QI P f F b R)(e:Ke a b):QI P f F a R:=λZ base w d c m l k o j=>by
 obtain⟨p,n⟩:=Qai e;exact h Z base w d c m l k ω λi g=>QkI (n i g) (j i ω)
def Q6.args{P}{f}{a b}{R}(h:Q6 P f b R)(e:Ke a b):Q6 P f a R:=QI.args h e
def PF(U:base<=w0.w.heap.size){K}{g}{u:TypeId}{pos}{i}{N}{r}{s}{x}{c}{Q:Array TypeId}{f}{n}{t}(J:Qk P f)
  (E:Jo (Qo s.fr x)=some (f,n,t)) {q:List D} (m:match X6 (VF s.h 4) (ZS n t (c.toList.map (Qo s.fr))) with|some (p,j)=>p/\Ke j q|none=>False) {R:D->List Ob->Prop} (l:Q6 P f q R)
  (V:∀d h,R d h->d.flat=true/\∀o∈h,o.flat) (F:Zj nt g=true) (I:∀d h,R d h->AX P base nt w0 K r ⟨Q8 s.fr g (d.shift s.h.length),s.h++h.map (Ob.shift s.h.length)⟩) :
  AX P base nt w0 K ((false,⟨g,.call ⟨.value x,c,Q⟩,u,pos,i,N⟩,none)::r) s:=by
 simp only[AX,WR,Y7];intro Z z C a w y b;split at m
 .rename_i p j L;obtain⟨H,k⟩:=m;have l:=l.args k;refine Oper.wp_mono (λY W ⟨k,d,h,S,M,B,O,T,v,e⟩=>⟨λ_=>k,_,_,S,v,I d h M,B,O,T,e⟩) (uB U J rfl E L H l V F C a w y b _)
 .exact m.elim
def Mf(E:base<=w0.w.heap.size){Q}{k}{b}{q:TypeId}{pos}{c}{B}{r}{s}{x}{a}{C:Array TypeId}{f}{j}{n}(w:Qk P f)
  (t:Jo (Qo s.fr x)=some (f,j,n)) {m:List D} (i:match X6 (VF s.h 4) (ZS j n (a.toList.map (Qo s.fr))) with|some (p,e)=>p/\Ke e m|none=>False) {R:D->List Ob->Prop} (g:Q6 P f m R)
  (F:∀d h,R d h->d.flat=true/\∀o∈h,o.flat) (u:Zj nt b=true) (l:∀d h,R d h->Qr P base nt w0 Q (.ops r::k) .normal ⟨Q8 s.fr b (d.shift s.h.length),s.h++h.map (Ob.shift s.h.length)⟩) :
  Qr P base nt w0 Q (.ops ((⟨b,.call ⟨.value x,a,C⟩,q,pos,c,B⟩,none)::r)::k) .normal s:=by
 simp only[Qr]at l ⊢;split at i
 .rename_i p e z;obtain⟨v,y⟩:=i;have g:=g.args y;exact Qj4 E w rfl t z v g F u l
 .exact i.elim
end
section
variable {nc:List Nat}{P:Program}{base nt:Nat}{w0:Start}
def WR.mono{f}{o}{F j}(g:∀s,F s->j s){s}(h:WR P base nt w0 f o F s):WR P base nt w0 f o j s:=by
 cases f with
 | true=>obtain⟨d,e,c,i,n⟩:=h;exact⟨d,e,c,i,g _ n⟩
 | false=>
  simp only[WR]at h ⊢;split at h
  .obtain⟨l,mk,e,c,i⟩:=h;exact⟨l,mk,e,c,g _ i⟩
  intro Z z k a w r b;exact Oper.wp_mono (λq w' ⟨m,d,h',p,v,e,c⟩=>⟨m,d,h',p,v,g _ e,c⟩) (h Z z k a w r b)
def AX.mono{K b}(a:∀s,K s->b s):∀(l:List (Bool × Oper × G)) (s:St),AX P base nt w0 K l s->AX P base nt w0 b l s
 | [],s,h=>a s h
 | (c,o,g)::r,s,h=>by
  simp only[AX]at h ⊢;split at h
  .exact WR.mono (AX.mono a r) h
  .exact⟨h.1,AX.mono a r _ h.2⟩
  .split at h
   .exact⟨λe=>WR.mono (AX.mono a r) (h.1 e),λe=>⟨(h.2 e).1,AX.mono a r _ (h.2 e).2⟩⟩
   .exact⟨h.1,AX.mono a r _ h.2⟩
   .exact h.elim
end
end Go.Fg
namespace Go.Fg
attribute [go_sem_proc] reduceIte reduceDIte dreduceIte dreduceDIte reduceCtorEq List.reduceReplicate Nat.reduceAdd Nat.reduceSub Nat.reduceMul Nat.reduceBEq Nat.reduceLT Nat.reduceGT Nat.reduceLeDiff Nat.reduceEqDiff Nat.reduceBneDiff Nat.reduceBeqDiff Nat.reduceSubDiff Nat.reduceBNe Nat.reduceDiv Nat.reduceMod Nat.reduceSucc Nat.reducePow Nat.reduceDvd Int.reduceToNat Int.reduceLE Int.reduceLT Int.reduceGT Int.reduceGE Int.reduceEq Int.reduceNe Int.reduceAdd Int.reduceSub Int.reduceMul Int.reduceNeg Int.reduceDiv Int.reduceMod Int.reducePow Int.reduceBEq Int.reduceBNe Int.reduceOfNat Int.reduceNegSucc Int.reduceNatCast Int.reduceNatCast' Int.reduceAbs Int.reduceDvd
def KI{c:Sort _}{a b:c}(h:a=b):a=b:=h
@[go_sem] theorem QAa(a b:Nat):Nat.beq a b=(a==b):=by
 rw[vE];simp[VL]
@[go_sem] theorem QkJ(a b):Nat.blt a b=decide (a<b):=by
 rw[vE];simp[vJ]
@[go_sem] theorem DI(a b:Nat):Nat.ble a b=decide (a<=b):=by
 rw[vE];simp[Nat.ble_eq]
def hx(P:Program)(a:Nat)(c:Start)(Q:Exit->St->Prop)(X:Cx)(b n:Nat)(k:List Item)(s:St):Prop:=(exec X b n k s).holds P a b c Q
def hz(P:Program)(a:Nat)(b:Start)(Q:Exit->St->Prop)(X:Cx)(c n:Nat)(k:List Item)(s:St):Prop:=hx P a b Q X c n k s
def Wo(b:Bool)(A B:Prop):Prop:=(b=true->A)/\(b=false->B)
def JF(b:Bool)(A:Prop):Prop:=b=true/\A
section
variable {P:Program}{base:Nat}{w0:Start}{Q:Exit->St->Prop}{X:Cx}{nt n:Nat}{k:List Item}{s:St}
@[go_sem ↓] theorem QAb{B}:Wo true (hz P base w0 Q X nt n k s) B=hx P base w0 Q X nt n k s:=by simp[Wo,hz]
@[go_sem ↓] theorem QAc{A}:Wo false A (hz P base w0 Q X nt n k s)=hx P base w0 Q X nt n k s:=by simp[Wo,hz]
def vZ{b}{c}{a}(e:b=true->hx P base w0 Q X nt n k s)(d:b=false->hx P base w0 Q X nt n c a):Wo b (hz P base w0 Q X nt n k s) (hz P base w0 Q X nt n c a):=⟨e,d⟩
@[go_sem] theorem QAd:hx P base w0 Q X nt (n+1) [] s=Q .normal s:=KI rfl
@[go_sem] theorem QAe{a}:hx P base w0 Q X nt (n+1) (.inBlock a::k) s=hx P base w0 Q X nt n k s:=KI rfl
@[go_sem] theorem QAf:hx P base w0 Q X nt (n+1) (.code .skip::k) s=hx P base w0 Q X nt n k s:=KI rfl
@[go_sem] theorem QAg{l}:hx P base w0 Q X nt (n+1) (.code (.label l)::k) s=hx P base w0 Q X nt n k s:=KI rfl
@[go_sem] theorem QAh{a b}:hx P base w0 Q X nt (n+1) (.code (.seq a b)::k) s=hx P base w0 Q X nt n (.code a::.code b::k) s:=KI rfl
@[go_sem] theorem QAi{a}{c}:hx P base w0 Q X nt (n+1) (.code (.block a c)::k) s=hx P base w0 Q X nt n (.code c::.inBlock a::k) s:=KI rfl
@[go_sem] theorem QAj:hx P base w0 Q X nt (n+1) (.inScope::k) s=hx P base w0 Q X nt n k s:=KI rfl
@[go_sem] theorem QAk{c}:hx P base w0 Q X nt (n+1) (.code (.scope c)::k) s=hx P base w0 Q X nt n (.code c::.inScope::k) s:=KI rfl
@[go_sem] theorem QAl{c}{a b}:hx P base w0 Q X nt (n+1) (.code (.cond c a b)::k) s=(match Qo s.fr c with
  | .raw (.bool x)=>Wo x (hz P base w0 Q X nt n (.code a::k) s) (hz P base w0 Q X nt n (.code b::k) s)
  | _=>False):=by
 simp only[hx,exec];generalize Qo s.fr c=d;cases d with
 | raw v=>cases v<;>rfl
 | _=>rfl
@[go_sem] theorem QAm{a}:hx P base w0 Q X nt (n+1) (.code (.exit a)::k) s=(match zP a k with
  | some b=>hx P base w0 Q X nt n b s
  | none=>Q (.exit a) s):=by
 simp only[hx,exec];generalize zP a k=r;cases r<;>rfl
@[go_sem] theorem QAn:hx P base w0 Q X nt (n+1) (.code .ret::k) s=Q .ret s:=KI rfl
@[go_sem] theorem QAo{b}{a}:hx P base w0 Q X nt (n+1) (.code (.region b a false)::k) s=hx P base w0 Q X nt n (.ops (AJ a)::k) s:=KI rfl
@[go_sem] theorem QAp{b}{a}:hx P base w0 Q X nt (n+1) (.code (.region b a true)::k) s=Qr P base nt w0 Q (.code (.region b a true)::k) .normal s:=KI rfl
@[go_sem] theorem QAq{c}:hx P base w0 Q X nt (n+1) (.code (.loop c)::k) s=Qr P base nt w0 Q (.code (.loop c)::k) .normal s:=KI rfl
@[go_sem] theorem QAr:hx P base w0 Q X nt (n+1) (.ops []::k) s=hx P base w0 Q X nt n k s:=KI rfl
@[go_sem ↓] theorem QAs{A}:JF true A=A:=by simp[JF]
@[go_sem] theorem QAt{o:Oper}{r}:hx P base w0 Q X nt (n+1) (.ops ((o,none)::r)::k) s=(match xu X s o.op with
  | some (p,d)=>p/\(match Zj nt o.dst with|true=>hx P base w0 Q X nt n (.ops r::k) ⟨Q8 s.fr o.dst d,s.h⟩|false=>False)
  | none=>match yD X s o.op with
   | some (p,h,d)=>p/\(match Zj nt o.dst with|true=>hx P base w0 Q X nt n (.ops r::k) ⟨Q8 s.fr o.dst d,h⟩|false=>False)
   | none=>Qr P base nt w0 Q (.ops ((o,none)::r)::k) .normal s):=by
 simp only[hx,exec];generalize xu X s o.op=b;generalize yD X s o.op=a;cases b with
 | some e=>cases Zj nt o.dst<;>simp[Tree.holds]
 | none=>cases a with
  | some c=>cases Zj nt o.dst<;>simp[Tree.holds]
  | none=>rfl
def Qaj{o:Oper}{t}{b}{r}(a:Zj nt o.dst=true):hx P base w0 Q X nt (n+1) (.ops ((o,some (some t,b))::r)::k) s=(match get s.fr t with
  | .raw (.bool x)=>Wo (Dx b x) (hz P base w0 Q X nt n (.ops ((o,none)::r)::k) ⟨put s.fr t (.raw (.bool b)),s.h⟩) (hz P base w0 Q X nt n (.ops r::k) ⟨Q8 (put s.fr t (.raw (.bool (!b)))) o.dst (.raw Go.undef),s.h⟩)
  | .raw (.tuple _)=>hx P base w0 Q X nt n (.ops r::k) ⟨Q8 s.fr o.dst (.raw Go.undef),s.h⟩
  | _=>False):=by
 simp only[hx,exec];generalize get s.fr t=d;cases d with
 | raw v=>
  cases v with
  | bool x=>simp[Wo,hz,hx,a,Tree.holds]
  | tuple c=>simp[a]
  | _=>rfl
 | _=>rfl
@[go_sem] theorem QAu{o:Oper}{t}{r}(a:Zj nt o.dst=true):hx P base w0 Q X nt (n+1) (.ops ((o,some (some t,true))::r)::k) s=(match get s.fr t with
  | .raw (.bool x)=>Wo x (hz P base w0 Q X nt n (.ops ((o,none)::r)::k) ⟨put s.fr t (.raw (.bool true)),s.h⟩) (hz P base w0 Q X nt n (.ops r::k) ⟨Q8 (put s.fr t (.raw (.bool false))) o.dst (.raw Go.undef),s.h⟩)
  | .raw (.tuple _)=>hx P base w0 Q X nt n (.ops r::k) ⟨Q8 s.fr o.dst (.raw Go.undef),s.h⟩
  | _=>False):=Qaj a
@[go_sem] theorem QAv{o:Oper}{t}{r}(a:Zj nt o.dst=true):hx P base w0 Q X nt (n+1) (.ops ((o,some (some t,false))::r)::k) s=(match get s.fr t with
  | .raw (.bool x)=>Wo x (hz P base w0 Q X nt n (.ops r::k) ⟨Q8 (put s.fr t (.raw (.bool true))) o.dst (.raw Go.undef),s.h⟩) (hz P base w0 Q X nt n (.ops ((o,none)::r)::k) ⟨put s.fr t (.raw (.bool false)),s.h⟩)
  | .raw (.tuple _)=>hx P base w0 Q X nt n (.ops r::k) ⟨Q8 s.fr o.dst (.raw Go.undef),s.h⟩
  | _=>False):=by
 rw[Qaj a];generalize get s.fr t=d;cases d with
 | raw v=>
  cases v with
  | bool x=>cases x<;>simp[Wo,Dx]
  | _=>rfl
 | _=>rfl
end
section
variable {P:Program}{base nt:Nat}{w0:Start}{Q:Exit->St->Prop}{k:List Item}{s:St}{I:Nat->St->Prop}{m:Nat}
@[go_sem] theorem QAw{e}:Qr P base nt w0 Q [] e s=Q e s:=KI rfl
@[go_sem] theorem QAx{x}:Qr P base nt w0 Q (x::k) .ret s=Qr P base nt w0 Q k .ret s:=by cases x<;>rfl
@[go_sem] theorem QAy{c}{j}:Qr P base nt w0 Q (.code c::k) (.exit j) s=Qr P base nt w0 Q k (.exit j) s:=KI rfl
@[go_sem] theorem QAz{l}{j}:Qr P base nt w0 Q (.ops l::k) (.exit j) s=Qr P base nt w0 Q k (.exit j) s:=KI rfl
@[go_sem] theorem QAA{a}:Qr P base nt w0 Q (.inBlock a::k) (.exit a) s=Qr P base nt w0 Q k .normal s:=by simp[Qr]
@[go_sem] theorem QAB{a j}(h:(j==a)=false):Qr P base nt w0 Q (.inBlock a::k) (.exit j) s=Qr P base nt w0 Q k (.exit j) s:=by
 have:¬ j=a:=by simpa using h
 simp[Qr,this]
@[go_sem] theorem QAC{a}:Qr P base nt w0 Q (.inBlock a::k) .normal s=Qr P base nt w0 Q k .normal s:=KI rfl
@[go_sem] theorem QAD{j}:Qr P base nt w0 Q (.inScope::k) (.exit j) s=Qr P base nt w0 Q k (.exit j) s:=KI rfl
@[go_sem] theorem QAE:Qr P base nt w0 Q (.inScope::k) .normal s=Qr P base nt w0 Q k .normal s:=KI rfl
@[go_sem] theorem QAF:UM P base nt w0 Q k I m .normal s=∃b a,b<m/\QF w0 s a/\I b a:=KI rfl
@[go_sem] theorem QAG{j}:UM P base nt w0 Q k I m (.exit j) s=Qr P base nt w0 Q k (.exit j) s:=KI rfl
@[go_sem] theorem QAH:UM P base nt w0 Q k I m .ret s=Qr P base nt w0 Q k .ret s:=KI rfl
end
attribute [go_sem] AJ guardOf strip Qo get put Q8 Zj X0 JT xu yD zP Dx
 TU TO TP TQ TR Fe Ff TS fD IntKind.same Hc mk TK.agg LD TW TX LF TY TZ T6 T7
 yq Av setRow OZ O5 BR Uj LL xp Az Uk jA Um Ur AD Hl cat YZ Yr nth D.there J7 fU
 ZS X6 VF Jo Dy one AK D.shift xv Ob.shift jE D.Yu D.flat FB D.upto AN FE Hw BZ AM LS Kd.G7 Kd.ty Kd.ro Kd.Pt Kd.toRo
attribute [go_sem] JN List.map_nil List.getElem?_toArray List.getElem?_cons_zero List.getElem?_cons_succ List.getElem?_nil TJ Option.bind_none Kx YW VK List.length_nil YT q4 Jl
 List.all_cons List.all_nil List.take_zero List.take_succ_cons List.take_nil List.drop_zero List.drop_succ_cons List.drop_nil List.set_cons_zero List.set_cons_succ List.getD_cons_zero List.getD_cons_succ List.replicate_zero Tv List.flatten_cons List.flatten_nil
 ky q5 De GV Bool.and_true Df Bool.and_false EW Bool.or_true Bool.true_or Bool.or_false OC Fc decide_true decide_false yj and_true false_and and_false
 implies_true forall_const reduceCtorEq List.toList_toArray Int.toNat_natCast Int.natCast_nonneg Int.ofNat_lt Int.ofNat_le Int.ofNat_inj Jv G2 QB KF QX Q9
def HH{P}{a c}{b:Start}{Q}{X}(e:qE P X)(d:a<=b.w.heap.size)(n){k}{s}(h:hx P a b Q X c n k s):Qr P a c b Q k .normal s:=jD e d n k s h
def af{P:Program}{X}(o:qE P X){f}{d:Func}{c}(n)(m:P.funcs[f]? = some d)(g:d.body=some c){b:List D}{R}{e}{i}(p:d.ntmps=e)(q:d.results=i)(k:Nat.ble b.length e=true)
  (h:∀(a:Nat) (w:World),a<=w.heap.size->hx P a ⟨w,[],[]⟩ (AK X.L i.toList R) X e n [.code c] ⟨jE b 0,[]⟩):Q6 P f b R:=
 uF o n m g p (TH k) (by
  subst q;intro a w j g l;cases j with
  | nil=>exact h a w g
  | cons _ _=>simp at l)
def ig{P:Program}{X}(m:qE P X){f}{d:Func}{c}(n)(l:P.funcs[f]? = some d)(i:d.body=some c){F}{b:List D}{R}{g}{j}(o:d.ntmps=g)(p:d.results=j)(k:Nat.ble b.length g=true)
  (h:∀(a:Nat) (w:World) (e:List Pl),a<=w.heap.size->hx P a ⟨w,F,e⟩ (AK X.L j.toList R) X g n [.code c] ⟨jE b 0,F⟩):QI P f F b R:=
 uF m n l i o (TH k) (by subst p;exact λa w e i _=>h a w e i)
def Zg.take{Z}{a}{h:List Ob}{c:List Pl}{w}(R:Zg Z a h c w)(k)(y:BZ k (h.take k)):Zg Z a (h.take k) (c.take k) w:=by
 have f:∀(l:Nat) (p:Pl),(c.take k)[l]? = some p->c[l]? = some p:=λl p e=>by
  rw[Xc]at e;split at e
  .exact e
  .cases e
 have m:∀(l:Nat) (o:Ob),(h.take k)[l]? = some o->h[l]? = some o:=λl o e=>by
  rw[Xc]at e;split at e
  .exact e
  .cases e
 refine⟨by simp[R.len],λl r b q n C B=>R.inj l r b q n (f _ _ C) (f _ _ B),λl o d g=>R.Vh l o (m _ _ d) (f _ _ g),λl o b q d g=>?_⟩;obtain⟨z,x⟩:=R.at_ l o b q (m _ _ d) (f _ _ g);exact⟨z,x.to rfl rfl rfl rfl (λ_ _=>rfl) λi j v u t s=>s.take (LU (gM y l o d i u) j t)⟩
def Kept(k:Nat)(R:D->List Ob->Prop)(d:D)(h:List Ob):Prop:=d.upto k=true/\BZ k (h.take k)/\R d (h.take k)
def QkL{a:List Pl}{k b}(h:W0 a b):W0 (a.take k) b:=λl q e=>by
 rw[Xc]at e;split at e
 .exact h l q e
 .cases e
def QI.take{P}{f}{F:List Ob}{a}{R}(k)(t:F.length<=k)(h:QI P f F a (Kept k R)):QI P f F a R:=λZ b w g e C B z c x=>
 (h Z b w g e C B z c x).mono λ_ _ ⟨v,d,u,J,q,⟨I,H,E⟩,n,m,j,i⟩=>⟨v,d,u.take k,J.take k,q,E,n.take k H,m.take I,
  j.keep t ⟨λ_ y=>QkL y,λl o p c s r=>⟨o,by rw[Xc,Qf c];exact s,by rw[Xc,Qf c];exact r,rfl,rfl,rfl⟩⟩,i⟩
def QkM(k){P:Program}{X}(m:qE P X){f}{d:Func}{c}(n)(j:P.funcs[f]? = some d)(l:d.body=some c){a:List D}{R}{e}{g}(o:d.ntmps=e)(p:d.results=g)(i:Nat.ble a.length e=true)
  (h:∀(b:Nat) (w:World),b<=w.heap.size->hx P b ⟨w,[],[]⟩ (AK X.L g.toList (Kept k R)) X e n [.code c] ⟨jE a 0,[]⟩):Q6 P f a R:=
 QI.take k (KF _) (af m n j l o p i h)
attribute [go_sem] Kept
def Qak{k}:∀{h c:List Ob},AM h c->BZ k c->BZ k h
 | [],[],_,_=>trivial
 | [],_::_,h,_=>h.elim
 | _::_,[],h,_=>h.elim
 | _::_,_::_,h,b=>⟨λi a=>by rw[<- h.1.2.2.2.2 i a];exact b.1 i (by rw[h.1.2.2.1];exact a),Qak h.2 b.2⟩
def Wk.to{m}(k){d a}{h c:List Ob}(b:FE d a/\Hw k a=true/\BZ k c/\AM (h.take k) c)(e:m<=k:=by exact TH rfl):Wk m ⟨d,h⟩ ⟨a,c⟩:=
 Wk.trans (Wk.frame b.1) (Wk.trans (Wk.drop k e b.2.1 (Qak b.2.2.2 b.2.2.1)) (Wk.FF b.2.2.2))
def QF.to{c:Start}(k){d a}{h b:List Ob}(e:FE d a/\Hw k a=true/\BZ k b/\AM (h.take k) b)(f:c.F.length<=k:=by exact TH rfl):QF c ⟨d,h⟩ ⟨a,b⟩:=(Wk.to k e f).up
def QF.frame{b}{a fr'}{h}(c:FE a fr'):QF b ⟨a,h⟩ ⟨fr',h⟩:=(Wk.frame c).up
def QF.BH{d}{b}{h:List Ob}(t c)(a)(e:get b t=.nil):QF d ⟨b,h⟩ ⟨put b t (.ref h.length 0 0 0),h++[⟨.arr,0,c,0,a⟩]⟩:=(Wk.BH t c a e).up
def QAI{a:Type}[Inhabited a](c:Nat)(b:a->List D)(l:List a)(d:D)(h:List Ob):Prop:=∃g,d=.ref 0 g 0 l.length/\h=[⟨.arr,g,c,l.length,λi=>b (l.getD i default)⟩]
def Mg(P:Program)(a:Nat)(b:Start)(Q:Exit->St->Prop)(X:Cx)(c n:Nat)(k:List Item)(s:St):Prop:=hx P a b Q X c n k s
def KB(P:Program)(a:Nat)(b:Start)(X:Cx)(c:Nat)(K:St->Prop)(l:List (Bool × Oper × G))(s:St):Prop:=R4 P a b X c K l s
def qG(P:Program)(a:Nat)(b:Start)(X:Cx)(c:Nat)(K:St->Prop)(l:List (Bool × Oper × G))(s:St):Prop:=KB P a b X c K l s
section
variable {nc:List Nat}{P:Program}{base:Nat}{w0:Start}{Q:Exit->St->Prop}{X:Cx}{nt n:Nat}{k:List Item}{s:St}{l:List (Bool × Oper × G)}{K:St->Prop}
@[go_sem ↓] theorem QAJ{B}:Wo true (qG P base w0 X nt K l s) B=KB P base w0 X nt K l s:=by simp[Wo,qG]
@[go_sem ↓] theorem QAK{A}:Wo false A (qG P base w0 X nt K l s)=KB P base w0 X nt K l s:=by simp[Wo,qG]
def FH{b}{c}{a}(e:b=true->KB P base w0 X nt K l s)(d:b=false->KB P base w0 X nt K c a):Wo b (qG P base w0 X nt K l s) (qG P base w0 X nt K c a):=⟨e,d⟩
@[go_sem] theorem QAL:KB P base w0 X nt K [] s=K s:=KI rfl
@[go_sem] theorem QAM:Mg P base w0 Q X nt n k s=hx P base w0 Q X nt n k s:=KI rfl
@[go_sem] theorem QAN{o:Oper}{r}:KB P base w0 X nt K ((true,o,none)::r) s=(match xu X s o.op with
  | some (p,d)=>p/\(match Zj nt o.dst with|true=>KB P base w0 X nt K r ⟨Q8 s.fr o.dst d,s.h⟩|false=>False)
  | none=>False):=by
 simp only[KB,R4,HG];generalize xu X s o.op=a;cases a with
 | some b=>cases Zj nt o.dst<;>simp
 | none=>rfl
@[go_sem] theorem QAO{o:Oper}{r}:KB P base w0 X nt K ((false,o,none)::r) s=(match xu X s o.op with
  | some (p,d)=>p/\(match Zj nt o.dst with|true=>KB P base w0 X nt K r ⟨Q8 s.fr o.dst d,s.h⟩|false=>False)
  | none=>match yD X s o.op with
   | some (p,h,d)=>p/\(match Zj nt o.dst with|true=>KB P base w0 X nt K r ⟨Q8 s.fr o.dst d,h⟩|false=>False)
   | none=>AX P base nt w0 K ((false,o,none)::r) s):=by
 simp only[KB,R4,HG];generalize xu X s o.op=b;generalize yD X s o.op=a;cases b with
 | some e=>cases Zj nt o.dst<;>simp
 | none=>cases a with
  | some c=>cases Zj nt o.dst<;>simp
  | none=>rfl
def Qal{a}{o:Oper}{t}{b}{r}(c:Zj nt o.dst=true):KB P base w0 X nt K ((a,o,some (some t,b))::r) s=(match get s.fr t with
  | .raw (.bool x)=>Wo (Dx b x) (qG P base w0 X nt K ((a,o,none)::r) ⟨put s.fr t (.raw (.bool b)),s.h⟩) (qG P base w0 X nt K r ⟨Q8 (put s.fr t (.raw (.bool (!b)))) o.dst (.raw Go.undef),s.h⟩)
  | .raw (.tuple _)=>KB P base w0 X nt K r ⟨Q8 s.fr o.dst (.raw Go.undef),s.h⟩
  | _=>False):=by
 simp only[KB,qG,R4];generalize get s.fr t=d;cases d with
 | raw v=>
  cases v with
  | bool x=>simp[Wo,c]
  | tuple e=>simp[c]
  | _=>rfl
 | _=>rfl
@[go_sem] theorem QAP{a}{o:Oper}{t}{r}(b:Zj nt o.dst=true):KB P base w0 X nt K ((a,o,some (some t,true))::r) s=(match get s.fr t with
  | .raw (.bool x)=>Wo x (qG P base w0 X nt K ((a,o,none)::r) ⟨put s.fr t (.raw (.bool true)),s.h⟩) (qG P base w0 X nt K r ⟨Q8 (put s.fr t (.raw (.bool false))) o.dst (.raw Go.undef),s.h⟩)
  | .raw (.tuple _)=>KB P base w0 X nt K r ⟨Q8 s.fr o.dst (.raw Go.undef),s.h⟩
  | _=>False):=Qal b
@[go_sem] theorem QAQ{a}{o:Oper}{t}{r}(b:Zj nt o.dst=true):KB P base w0 X nt K ((a,o,some (some t,false))::r) s=(match get s.fr t with
  | .raw (.bool x)=>Wo x (qG P base w0 X nt K r ⟨Q8 (put s.fr t (.raw (.bool true))) o.dst (.raw Go.undef),s.h⟩) (qG P base w0 X nt K ((a,o,none)::r) ⟨put s.fr t (.raw (.bool false)),s.h⟩)
  | .raw (.tuple _)=>KB P base w0 X nt K r ⟨Q8 s.fr o.dst (.raw Go.undef),s.h⟩
  | _=>False):=by
 rw[Qal b];generalize get s.fr t=d;cases d with
 | raw v=>
  cases v with
  | bool x=>cases x<;>simp[Wo,Dx]
  | _=>rfl
 | _=>rfl
def QkN{d}{a}(c:qE P X)(b:base<=w0.w.heap.size)(n)(f:P.follows .mixedOrders=true)(l)(i:U8 X.L a l=true)(g:AP a s.fr=true)(h:KB P base w0 X nt (Mg P base w0 Q X nt n k) (Vb [] a l) s):Qr P base nt w0 Q (.code (.region d a true)::k) .normal s:=
 QkE c.L b f l i g (AX.mono (λs e=>HH c b n e) _ _ (DH c b _ _ h))
def QkO(b:qE P X)(a:base<=w0.w.heap.size)(h:KB P base w0 X nt K l s):AX P base nt w0 K l s:=DH b a _ _ h
abbrev HI:=Nat × Oper × G × List Nat
def HJ:List Edge->List Nat
 | []=>[]
 | e::r=>bif Region.binds .any e then e.on::HJ r else HJ r
def zT(nc:List Nat)(a:Array Oper):List Nat->List HI
 | []=>[]
 | i::r=>match a[i]? with
  | some o=>(i,Yv (KA i nc) o,guardOf a o,HJ o.after.toList)::zT nc a r
  | none=>zT nc a r
def B5(i:Nat):List HI->List HI
 | []=>[]
 | e::r=>bif Nat.beq e.1 i then B5 i r else e::B5 i r
def Mh(done:List Nat):List Nat->Bool
 | []=>true
 | i::r=>KA i done&&Mh done r
def PG(F:HI->Prop):List HI->Prop
 | []=>True
 | e::r=>F e/\PG F r
def DJ(P:Program)(base:Nat)(w0:Start)(X:Cx)(nt:Nat)(K:St->Prop):Nat->List HI->List Nat->St->Prop
 | 0,_,_,s=>K s
 | m+1,a,done,s=>PG (λe=>match Mh done e.2.2.2 with
  | true=>KB P base w0 X nt (DJ P base w0 X nt K m (B5 e.1 a) (e.1::done)) [(false,e.2.1,e.2.2.1)] s
  | false=>True) a
def ij{done}:∀{l:List Edge},jF done l=false->Mh done (HJ l)=true
 | [],_=>rfl
 | e::r,h=>by
  simp only[jF,EX,EV,Bool.not_eq_false']at h;simp only[HJ];cases a:Region.binds .any e
  .exact ij h.2
  .simp only[ky,Mh,ZH];refine⟨h.1.resolve_left (by rw[a];simp),ij h.2⟩
def Qam{F}:∀{l:List HI},PG F l->∀e∈l,F e
 | [],_,e,he=>by cases he
 | x::r,h,e,he=>by
  rcases QE.1 he with rfl|he
  .exact h.1
  .exact Qam h.2 e he
def ik{a:Array Oper}{i}{o:Oper}(b:a[i]? = some o):∀{R:List Nat},i∈R->(i,Yv (KA i nc) o,guardOf a o,HJ o.after.toList)∈zT nc a R
 | [],h=>by cases h
 | j::r,h=>by
  simp only[zT];rcases QE.1 h with rfl|h
  .rw[b];exact K8 ..
  .split
   .exact Km _ (ik b h)
   .exact ik b h
def ag{a}{i}:∀{R:List Nat},i ∉ R->B5 i (zT nc a R)=zT nc a R
 | [],_=>rfl
 | j::r,h=>by
  simp only[QE,YX]at h;simp only[zT];split
  .simp only[B5];have:Nat.beq j i=false:=by rw[<- XY,VL];exact λe=>h.1 e.symm
   rw[this,q5,ag h.2]
  .exact ag h.2
def iq{a}{i}:∀{R:List Nat},R.Nodup->B5 i (zT nc a R)=zT nc a (R.erase i)
 | [],_=>rfl
 | j::r,h=>by
  obtain⟨d,c⟩:=ZN.1 h;by_cases b:j=i
  .subst b;rw[List.erase_cons_head];simp only[zT];split
   .simp only[B5,Lu,ky];exact ag d
   .exact ag d
  .rw[List.erase_cons_tail (by simpa using b)];have e:Nat.beq j i=false:=by rw[<- XY,VL];exact b
   simp only[zT];cases f:a[j]? with
   | some o=>simp only[B5,e,q5,iq c]
   | none=>simp only[iq c]
def iu(d:qE P X)(c:base<=w0.w.heap.size){a}{g}(e:∀s,K s->g s):∀(m:Nat) (R done:List Nat) (s:St),R.Nodup->DJ P base w0 X nt K m (zT nc a R) done s->DF nc P base nt w0 a g m R done s
 | 0,_,_,s,_,h=>e s h
 | m+1,R,done,s,b,h=>by
  intro i q o p r;have f:=Qam h _ (ik p q);simp only[ij r]at f;refine AX.mono (λs j=>iu d c e m (R.erase i) (i::done) s (b.erase _) ?_) _ _ (DH d c _ _ f);rw[<- iq b];exact j
def Qan(nc){f}{a}(c:qE P X)(b:base<=w0.w.heap.size)(n)(g:P.follows .mixedOrders=true)(l)(R)(e:B4 nc X.L a l R=true)(i:AP a s.fr=true)
  (h:KB P base w0 X nt (DJ P base w0 X nt (Mg P base w0 Q X nt n k) R.length (zT nc a R) (l.map (·.1))) (Vb nc a l) s):Qr P base nt w0 Q (.code (.region f a true)::k) .normal s:=by
 have j:R.Nodup:=by
  simp only[B4,ZH]at e;exact(U7 e.1.2).1
 exact Qag c.L b g l R e i (AX.mono (λs d=>iu c b (λs d=>HH c b n d) _ _ _ s j d) _ _ (DH c b _ _ h))
def QAR{b}{a}(e:qE P X)(d:base<=w0.w.heap.size)(n)(c:P.follows .mixedOrders=true)(l)(R)(g:B4 [] X.L a l R=true)(f:AP a s.fr=true)
  (h:KB P base w0 X nt (DJ P base w0 X nt (Mg P base w0 Q X nt n k) R.length (zT [] a R) (l.map (·.1))) (Vb [] a l) s):Qr P base nt w0 Q (.code (.region b a true)::k) .normal s:=Qan [] e d n c l R g f h
@[go_sem] theorem QAS{i}:Region.binds .any ⟨i,.data⟩=true:=rfl
@[go_sem] theorem QAT{i}:Region.binds .any ⟨i,.chain⟩=true:=rfl
@[go_sem] theorem QAU{i}:Region.binds .any ⟨i,.guard⟩=true:=rfl
@[go_sem] theorem QAV{i}:Region.binds .any ⟨i,.phase⟩=true:=rfl
@[go_sem] theorem QAW{i}{d}:Region.binds .any ⟨i,.textOnly d⟩=false:=rfl
@[go_sem] theorem QAX{i}{d}:Region.binds .any ⟨i,.gcOnly d⟩=false:=rfl
@[go_sem] theorem QAY{a}{d}:DJ P base w0 X nt K 0 a d s=K s:=KI rfl
@[go_sem] theorem QAZ{m}{a}{d}:DJ P base w0 X nt K (m+1) a d s=PG (λe=>match Mh d e.2.2.2 with
  | true=>KB P base w0 X nt (DJ P base w0 X nt K m (B5 e.1 a) (e.1::d)) [(false,e.2.1,e.2.2.1)] s
  | false=>True) a:=KI rfl
end
def PH(P:Program)(a d:Nat)(b:Start)(Q:Exit->St->Prop)(k:List Item)(S:Nat->St->Prop)(N i:Nat):Exit->St->Prop
 | .normal,s=>i<N/\∃c,QF b s c/\S (i+1) c
 | e,s=>Qr P a d b Q k e s
section
variable {P:Program}{base nt:Nat}{w0:Start}{Q:Exit->St->Prop}{k:List Item}{s:St}
@[go_sem] theorem QA0{S}{N i}:PH P base nt w0 Q k S N i .normal s=(i<N/\∃a,QF w0 s a/\S (i+1) a):=KI rfl
@[go_sem] theorem QA1{S}{N i j}:PH P base nt w0 Q k S N i (.exit j) s=Qr P base nt w0 Q k (.exit j) s:=KI rfl
@[go_sem] theorem QA2{S}{N i}:PH P base nt w0 Q k S N i .ret s=Qr P base nt w0 Q k .ret s:=KI rfl
def Z4{c}(S)(N){s0}(d:QF w0 s s0)(j:S 0 s0)(a:∀i s,i<=N->S i s->Qr P base nt w0 (PH P base nt w0 Q k S N i) [.code c] .normal s):Qr P base nt w0 Q (.code (.loop c)::k) .normal s:=by
 refine LV (λm s=>∃i,i+m=N/\S i s) N d ⟨0,ω,j⟩ ?_;rintro m s ⟨i,o,f⟩;have:=a i s ω f;simp only[Qr]at this ⊢;refine this.mono λe n b=>?_;cases e with
 | normal=>obtain⟨p,l,h,g⟩:=b;exact⟨m - 1,l,ω,h,i+1,ω,g⟩
 | _=>exact b
end
def B6{P}{a d}{b}{Q}{l}{k}{s c}(h:QF b s c)(e:Qr P a d b Q (.ops l::k) .normal c):Qr P a d b Q (.ops l::k) .normal s:=by
 simp only[Qr]at e ⊢;exact e.Xh h
attribute [go_sem] Yv zT HJ B5 Mh KA PG Vb Ke false_implies imp_self ne_eq not_false_eq_true not_true_eq_false Nat.one_ne_zero
@[go_sem] theorem QA3(v):D.Vi (.raw v)=yq v:=rfl
@[go_sem] theorem QA4  : D.Vi (.nil)=true:=rfl
@[go_sem] theorem QA5  : D.Vi (.undef)=false:=rfl
@[go_sem] theorem QA6(z n)(r):D.Vi (.imm z n r)=true:=rfl
@[go_sem] theorem QA7(c):D.Vi (.ip c)=true:=rfl
@[go_sem] theorem QA8(l g o n):D.Vi (.ref l g o n)=true:=rfl
@[go_sem] theorem QA9(l g i j):D.Vi (.ptr l g i j)=true:=rfl
@[go_sem] theorem QBa(l g):D.Vi (.mref l g)=true:=rfl
@[go_sem] theorem QBb(f)(n)(c):D.Vi (.clo f n c)=true:=rfl
@[go_sem] theorem QBc(c):D.Vi (.agg c)=false:=rfl
@[go_sem] theorem QBd(c):D.Vi (.tup c)=false:=rfl
@[go_sem] theorem QBe(v):XN (.raw v)=bif D.Vi (.raw v) then some [.raw v] else none:=rfl
@[go_sem] theorem QBf  : XN (.nil)=bif D.Vi (.nil) then some [.nil] else none:=rfl
@[go_sem] theorem QBg  : XN (.undef)=bif D.Vi (.undef) then some [.undef] else none:=rfl
@[go_sem] theorem QBh(z n)(r):XN (.imm z n r)=bif D.Vi (.imm z n r) then some [.imm z n r] else none:=rfl
@[go_sem] theorem QBi(c):XN (.ip c)=bif D.Vi (.ip c) then some [.ip c] else none:=rfl
@[go_sem] theorem QBj(l g o n):XN (.ref l g o n)=bif D.Vi (.ref l g o n) then some [.ref l g o n] else none:=rfl
@[go_sem] theorem QBk(l g i j):XN (.ptr l g i j)=bif D.Vi (.ptr l g i j) then some [.ptr l g i j] else none:=rfl
@[go_sem] theorem QBl(l g):XN (.mref l g)=bif D.Vi (.mref l g) then some [.mref l g] else none:=rfl
@[go_sem] theorem QBm(f)(n)(c):XN (.clo f n c)=bif D.Vi (.clo f n c) then some [.clo f n c] else none:=rfl
@[go_sem] theorem QBn(c:List D):XN (.agg c)=bif c.all D.Vi then some c else none:=rfl
@[go_sem] theorem QBo(c):XN (.tup c)=bif D.Vi (.tup c) then some [.tup c] else none:=rfl
@[go_sem] theorem QBp(a)(v):Xu a (.raw v)=(a=.raw v):=rfl
@[go_sem] theorem QBq(a)  : Xu a (.nil)=(a=.nil):=rfl
@[go_sem] theorem QBr(a)  : Xu a (.undef)=(a=.undef):=rfl
@[go_sem] theorem QBs(a c z n)(b r):Xu (.imm a c b) (.imm z n r)=(a=z/\c=n/\∀i,i<n->b i=r i):=rfl
@[go_sem] theorem QBt(a)(c):Xu a (.ip c)=(a=.ip c):=rfl
@[go_sem] theorem QBu(a)(l g o n):Xu a (.ref l g o n)=(a=.ref l g o n):=rfl
@[go_sem] theorem QBv(a)(l g i j):Xu a (.ptr l g i j)=(a=.ptr l g i j):=rfl
@[go_sem] theorem QBw(a)(l g):Xu a (.mref l g)=(a=.mref l g):=rfl
@[go_sem] theorem QBx(a)(f)(n)(c):Xu a (.clo f n c)=(a=.clo f n c):=rfl
@[go_sem] theorem QBy(a)(c):Xu a (.agg c)=(a=.agg c):=rfl
@[go_sem] theorem QBz(a)(c):Xu a (.tup c)=(a=.tup c):=rfl
end Go.Fg
namespace Go.Fg
open Go.RowKit (Below)
def pos(l:Nat):List Nat->Nat
 | []=>0
 | k::r=>bif Nat.beq k l then 0 else pos l r+1
mutual
def D.Xv(a:List Nat):D->D
 | .ref l g c e=>.ref (pos l a) g c e
 | .ptr l g i j=>.ptr (pos l a) g i j
 | .mref l g=>.mref (pos l a) g
 | .clo f h b=>.clo f h (jH a b)
 | .agg b=>.agg (jH a b)
 | .tup b=>.tup (jH a b)
 | d=>d
def jH(a:List Nat):List D->List D
 | []=>[]
 | c::b=>c.Xv a::jH a b
end
mutual
def D.AR(a:List Nat):D->Bool
 | .ref l _ _ _=>KA l a
 | .ptr l _ _ _=>KA l a
 | .mref l _=>KA l a
 | .clo _ _ b=>yH a b
 | .agg b=>yH a b
 | .tup b=>yH a b
 | _=>true
def yH(a:List Nat):List D->Bool
 | []=>true
 | c::b=>c.AR a&&yH a b
end
def HL{l}:∀{Qp:List Nat},KA l Qp=true->Qp[pos l Qp]? = some l
 | [],h=>by cases h
 | k::r,h=>by
  simp only[pos];by_cases e:k=l
  .subst e;simp
  .have b:Nat.beq k l=false:=by rw[<- XY,VL];exact e
   have a:Nat.beq l k=false:=by rw[<- XY,VL];exact λx=>e x.symm
   simp only[KA,a,OC]at h;simp[b,HL h]
def jJ(b):∀a:List D,(jH b a).length=a.length
 | []=>rfl
 | _::a=>by simp[jH,jJ b a]
def DK(b):∀(a:List D) (i:Nat),i<a.length->nth (jH b a) i=(nth a i).Xv b
 | [],i,h=>by simp at h
 | c::a,0,_=>by simp[jH,nth]
 | c::a,i+1,h=>by
  have:=DK b a i (by simpa using h);simpa[jH,nth] using this
def Mi{c}:∀{b:List D},yH c b=true->∀i,i<b.length->(nth b i).AR c=true
 | [],_,i,h=>by simp at h
 | d::r,a,i,h=>by
  simp only[yH,ZH]at a;cases i with
  | zero=>exact a.1
  | succ i=>have:=Mi a.2 i (by simpa using h);simpa[nth] using this
def Ob.Xv(a:List Nat)(o:Ob):Ob:=⟨o.kd,o.gen,o.sz,o.n,λi=>jH a (o.row i)⟩
def Yw(h:List Ob):List Nat->List Ob
 | []=>[]
 | i::r=>match h[i]? with
  | some o=>o::Yw h r
  | none=>[]
def jK(a:List Pl):List Nat->List Pl
 | []=>[]
 | i::r=>match a[i]? with
  | some o=>o::jK a r
  | none=>[]
def Wp(n:Nat):List Nat->Bool
 | []=>true
 | i::r=>Nat.blt i n&&Wp n r
def AS:List Nat->Bool
 | []=>true
 | i::r=>!KA i r&&AS r
def Qao{n}:∀{l:List Nat},Wp n l=true->∀i∈l,i<n
 | [],_,i,h=>by cases h
 | k::r,h,i,a=>by
  simp only[Wp,ZH,vJ]at h;rcases QE.1 a with e|e
  .subst e;exact h.1
  .exact Qao h.2 i e
def Qap:∀{l:List Nat},AS l=true->∀(i j x:Nat),l[i]? = some x->l[j]? = some x->i=j
 | [],_,i,j,x,h,_=>by simp at h
 | k::r,h,i,j,x,b,a=>by
  simp only[AS,ZH,qZ]at h;have c:k ∉ r:=λd=>by rw[vV.2 d]at h;cases h.1
  cases i with
  | zero=>
   simp at b;subst b;cases j with
   | zero=>rfl
   | succ j=>simp at a;exact absurd (OJ a) c
  | succ i=>
   simp at b;cases j with
   | zero=>simp at a;subst a;exact absurd (OJ b) c
   | succ j=>simp at a;rw[Qap h.2 i j x b a]
def HM{h:List Ob}:∀{Qp:List Nat},Wp h.length Qp=true->∀(i l:Nat),Qp[i]? = some l->(Yw h Qp)[i]? = h[l]?
 | [],_,i,l,e=>by simp at e
 | k::r,a,i,l,e=>by
  simp only[Wp,ZH,vJ]at a;simp only[Yw,QP a.1];cases i with
  | zero=>simp at e;subst e;simp[QP a.1]
  | succ i=>simp at e;simpa using HM a.2 i l e
def AT{h:List Pl}:∀{Qp:List Nat},Wp h.length Qp=true->∀(i l:Nat),Qp[i]? = some l->(jK h Qp)[i]? = h[l]?
 | [],_,i,l,e=>by simp at e
 | k::r,a,i,l,e=>by
  simp only[Wp,ZH,vJ]at a;simp only[jK,QP a.1];cases i with
  | zero=>simp at e;subst e;simp[QP a.1]
  | succ i=>simp at e;simpa using AT a.2 i l e
def ai{h:List Ob}:∀{Qp:List Nat},Wp h.length Qp=true->(Yw h Qp).length=Qp.length
 | [],_=>rfl
 | k::r,a=>by
  simp only[Wp,ZH,vJ]at a;simp[Yw,QP a.1,ai a.2]
def Mj{h:List Pl}:∀{Qp:List Nat},Wp h.length Qp=true->(jK h Qp).length=Qp.length
 | [],_=>rfl
 | k::r,a=>by
  simp only[Wp,ZH,vJ]at a;simp[jK,QP a.1,Mj a.2]
def Qy.Qp{Z N}{h:List Ob}{u:List Pl}{w}{k}(W:∀b,free Z u b->N b)(s:u.length=h.length)(H:Wp h.length k=true){d:D}{v}(r:Qy Z h u w d v)(F:d.AR k=true):
  Qy N ((Yw h k).map (Ob.Xv k)) (jK u k) w (d.Xv k) v:=by
 have O:Wp u.length k=true:=by rw[s];exact H
 have Yt:∀b,free Z u b->free N (jK u k) b:=λb T=>⟨W b T,λl q e=>by
  have Qc:l<k.length:=by rw[<- Mj O];exact VM e
  rw[AT O l (k[l]) (QP Qc)]at e;exact T.2 _ q e⟩
 have Z1:∀(d:D) (v:Value),Cl (free Z u) w d v->Qy N ((Yw h k).map (Ob.Xv k)) (jK u k) w (d.Xv k) v:=by
  intro d v z;have U:=z.mono (N':=free N (jK u k)) (w':=w) (λb H _=>⟨Yt b H,rfl⟩);clear z;induction U with
  | raw v=>exact .cl _ _ (.raw v)
  | undef v=>exact .cl _ _ (.undef v)
  | nil a=>exact .cl _ _ (.nil a)
  | imm V n Q a C b o m Y s B z x t=>exact .cl _ _ (.imm V n Q a C b o m Y s B z x)
  | ip E b o m z x t=>exact .cl _ _ (.ip E b o m z x)
  | clo f P M m s x t=>exact .clo f P _ m (by rw[jJ];exact s) (λi c=>by rw[jJ]at c;rw[DK _ _ _ c];exact t i c)
  | agg M m s x t=>exact .agg _ m (by rw[jJ];exact s) (λi c=>by rw[jJ]at c;rw[DK _ _ _ c];exact t i c)
  | tup M m s x t=>exact .tup _ m (by rw[jJ];exact s) (λi c=>by rw[jJ]at c;rw[DK _ _ _ c];exact t i c)
 induction r with
 | cl d v z=>exact Z1 d v z
 | ref l g R S o p a C K J I L B=>
  have y:KA l k=true:=by simpa[D.AR] using F
  exact .ref _ g R S (o.Xv k) p a C (by rw[Kl,HM H _ l (HL y),K];rfl) (by rw[AT O _ l (HL y),J]) I L B
 | ptr l g i j o p a K J I L B=>
  have y:KA l k=true:=by simpa[D.AR] using F
  exact .ptr _ g i j (o.Xv k) p a (by rw[Kl,HM H _ l (HL y),K];rfl) (by rw[AT O _ l (HL y),J]) I L B
 | mref l g o p b K J I L B=>
  have y:KA l k=true:=by simpa[D.AR] using F
  exact .mref _ g (o.Xv k) p b (by rw[Kl,HM H _ l (HL y),K];rfl) (by rw[AT O _ l (HL y),J]) I L B
 | clo f P M m s x t=>exact .clo f P _ m (by rw[jJ];exact s) λi c=>by rw[jJ]at c;rw[DK _ _ _ c];exact t i c (Mi (by simpa[D.AR] using F) i c)
 | agg M m s x t=>exact .agg _ m (by rw[jJ];exact s) λi c=>by rw[jJ]at c;rw[DK _ _ _ c];exact t i c (Mi (by simpa[D.AR] using F) i c)
 | tup M m s x t=>exact .tup _ m (by rw[jJ];exact s) λi c=>by rw[jJ]at c;rw[DK _ _ _ c];exact t i c (Mi (by simpa[D.AR] using F) i c)
def HN(a:List Nat):List Ob->Prop
 | []=>True
 | o::r=>(∀i,i<o.n->yH a (o.row i)=true)/\HN a r
def Qaq{a}:∀{h:List Ob},HN a h->∀(l:Nat) (o:Ob),h[l]? = some o->∀i,i<o.n->yH a (o.row i)=true
 | [],_,l,o,e=>by simp at e
 | o::r,h,l,u,e=>by
  cases l with
  | zero=>simp at e;subst e;exact h.1
  | succ l=>simp at e;exact Qaq h.2 l u e
def Zg.Qp{Z F}{c}{h:List Ob}{g}{w}{a}(R:Zg Z c h g w)(L:∀b,free Z g b->F b)(r:Wp h.length a=true)(O:AS a=true)(P:HN a (Yw h a)):
  Zg F c ((Yw h a).map (Ob.Xv a)) (jK g a) w:=by
 have B:Wp g.length a=true:=by rw[R.len];exact r
 have s:∀(i:Nat) (p:Pl),(jK g a)[i]? = some p->∃l,a[i]? = some l/\g[l]? = some p:=λi p e=>by
  have Qc:i<a.length:=by rw[<- Mj B];exact VM e
  exact⟨a[i],QP Qc,by rw[<- AT B i _ (QP Qc)];exact e⟩
 have E:∀(i:Nat) (o:Ob),((Yw h a).map (Ob.Xv a))[i]? = some o->∃l u,a[i]? = some l/\h[l]? = some u/\o=u.Xv a/\(Yw h a)[i]? = some u:=λi o e=>by
  rw[Kl,Xq]at e;obtain⟨u,f,rfl⟩:=e;have Qc:i<a.length:=by rw[<- ai r];exact Kh f
  exact⟨a[i],u,QP Qc,by rw[<- HM r i _ (QP Qc)];exact f,rfl,f⟩
 refine⟨by rw[Mj B,JV,ai r],λi K b q I T S=>?_,λi o z y=>?_,λi o b q z y=>?_⟩
 .obtain⟨l,m,J⟩:=s _ _ T;obtain⟨t,d,n⟩:=s _ _ S;have:=R.inj l t b q I J n;subst this;exact Qap O i K l m d
 .obtain⟨l,u,m,f,rfl,_⟩:=E _ _ z;obtain⟨t,d,n⟩:=s _ _ y;rw[m]at d;cases d;exact R.Vh l u f n
 .obtain⟨l,u,m,f,rfl,H⟩:=E _ _ z;obtain⟨t,d,n⟩:=s _ _ y;rw[m]at d;cases d;obtain⟨Q,x⟩:=R.at_ l u b q f n;refine⟨Q,x.to rfl rfl rfl rfl (λk _=>jJ _ _) λk j v N C M=>?_⟩;show Qy _ _ _ _ (nth (jH a (u.row k)) j) v;rw[DK _ _ _ C];exact M.Qp L R.len r (Mi (Qaq P i u H k N) j C)
def Qar{c:List Pl}{a}(d:Wp c.length a=true){b}(h:W0 c b):W0 (jK c a) b:=λl q e=>by
 have Qc:l<a.length:=by rw[<- Mj d];exact VM e
 rw[AT d l (a[l]) (QP Qc)]at e;exact h _ q e
def Qas(a:List Nat)(R:D->List Ob->Prop)(d:D)(h:List Ob):Prop:=d.AR a=true/\Wp h.length a=true/\HN a (Yw h a)/\R (d.Xv a) ((Yw h a).map (Ob.Xv a))
def PI:Nat->Nat->List Nat->Bool
 | 0,_,_=>true
 | _+1,_,[]=>false
 | m+1,i,k::r=>Nat.beq k i&&PI m (i+1) r
def Qat:∀{m i:Nat} {Qp:List Nat},PI m i Qp=true->∀l,l<m->Qp[l]? = some (i+l)
 | 0,_,_,_,l,a=>ω
 | m+1,i,[],h,_,_=>by cases h
 | m+1,i,k::r,h,l,a=>by
  simp only[PI,ZH]at h;obtain rfl:=OL h.1;cases l with
  | zero=>simp
  | succ l=>rw[List.getElem?_cons_succ,Qat h.2 l ω];congr 1;omega
def QI.Qp{P}{f}{F:List Ob}{a}{R}(b)(y:AS b=true)(t:PI F.length 0 b=true)(h:QI P f F a (Qas b R)):QI P f F a R:=λZ g w m k H E C j z=>
 (h Z g w m k H E C j z).mono λ_ _ ⟨v,d,M,L,s,⟨K,c,J,I⟩,i,r,q,n⟩=>⟨v,d.Xv b,_,jK L b,s,I,i.Qp (λ_ h=>h.1) c y J,r.Qp (λ_ h=>h.1) i.len c K,
  q.keep (QB _) ⟨λ_ B=>Qar (by rw[i.len];exact c) B,λl o p j x u=>by
   have e:=Qat t l j;rw[Jv]at e;exact⟨o.Xv b,by rw[Kl,HM c l l e,x];rfl,by rw[AT (by rw[i.len];exact c) l l e,u],rfl,rfl,rfl⟩⟩,n⟩
attribute [go_sem] Qas pos D.Xv jH D.AR yH Ob.Xv Yw Wp HN KA
mutual
def D.idx(a:Nat->Nat):D->D
 | .ref l g c e=>.ref (a l) g c e
 | .ptr l g i j=>.ptr (a l) g i j
 | .mref l g=>.mref (a l) g
 | .clo f h b=>.clo f h (yI a b)
 | .agg b=>.agg (yI a b)
 | .tup b=>.tup (yI a b)
 | d=>d
def yI(a:Nat->Nat):List D->List D
 | []=>[]
 | c::b=>c.idx a::yI a b
end
def v8(b):∀a:List D,(yI b a).length=a.length
 | []=>rfl
 | _::a=>by simp[yI,v8 b a]
def FI(b):∀(a:List D) (i:Nat),i<a.length->nth (yI b a) i=(nth a i).idx b
 | [],i,h=>by simp at h
 | c::a,0,_=>by simp[yI,nth]
 | c::a,i+1,h=>by
  have:=FI b a i (by simpa using h);simpa[yI,nth] using this
def Ob.idx(a:Nat->Nat)(o:Ob):Ob:=⟨o.kd,o.gen,o.sz,o.n,λi=>yI a (o.row i)⟩
def Qy.idx{Z P}{h R}{N L}{w}(M)(hf:∀b,free Z N b->free P L b)
  (S:∀(l:Nat) (o:Ob) (p:Pl),h[l]? = some o->N[l]? = some p->∃q,R[M l]? = some q/\L[M l]? = some p/\q.gen=o.gen/\q.sz=o.sz/\q.kd.ty=o.kd.ty) {d:D} {v:Value} (r:Qy Z h N w d v):Qy P R L w (d.idx M) v:=by
 have Z1:∀(d:D) (v:Value),Cl (free Z N) w d v->Qy P R L w (d.idx M) v:=by
  intro d v t;have W:=t.mono (N':=free P L) (w':=w) (λb hb _=>⟨hf b hb,rfl⟩);clear t;induction W with
  | raw v=>exact .cl _ _ (.raw v)
  | undef v=>exact .cl _ _ (.undef v)
  | nil a=>exact .cl _ _ (.nil a)
  | imm Y n T a y b o e ha m x t s k=>exact .cl _ _ (.imm Y n T a y b o e ha m x t s)
  | ip z b o e t s k=>exact .cl _ _ (.ip z b o e t s)
  | clo f Q K e m s k=>exact .clo f Q _ e (by rw[v8];exact m) (λi c=>by rw[v8]at c;rw[FI _ _ _ c];exact k i c)
  | agg K e m s k=>exact .agg _ e (by rw[v8];exact m) (λi c=>by rw[v8]at c;rw[FI _ _ _ c];exact k i c)
  | tup K e m s k=>exact .tup _ e (by rw[v8];exact m) (λi c=>by rw[v8]at c;rw[FI _ _ _ c];exact k i c)
 induction r with
 | cl d v t=>exact Z1 d v t
 | ref l g U V o p a y C B E F x=>
  obtain⟨q,J,I,u,O,H⟩:=S l o p C B;exact .ref _ g U V q p a y J I (by rw[H];exact E) (by rw[u];exact F) (by rw[u,O];exact x)
 | ptr l g i j o p a C B E F x=>
  obtain⟨q,J,I,u,O,H⟩:=S l o p C B;exact .ptr _ g i j q p a J I (by rw[H];exact E) (by rw[u];exact F) (by rw[u,O];exact x)
 | mref l g o p b C B E F x=>
  obtain⟨q,J,I,u,O,H⟩:=S l o p C B;exact .mref _ g q p b J I (by rw[H];exact E) (by rw[u];exact F) (by rw[u];exact x)
 | clo f Q K e m s k=>exact .clo f Q _ e (by rw[v8];exact m) (λi c=>by rw[v8]at c;rw[FI _ _ _ c];exact k i c)
 | agg K e m s k=>exact .agg _ e (by rw[v8];exact m) (λi c=>by rw[v8]at c;rw[FI _ _ _ c];exact k i c)
 | tup K e m s k=>exact .tup _ e (by rw[v8];exact m) (λi c=>by rw[v8]at c;rw[FI _ _ _ c];exact k i c)
def WA(n:Nat):List Nat->Nat->Nat
 | [],i=>n+i
 | k::_,0=>k
 | _::r,i+1=>WA n r i
def Xw{a:Type}(h:List a):List Nat->List a->List a
 | [],b=>h++b
 | k::r,x::b=>Xw (h.set k x) r b
 | _::_,[]=>h
def aj{n}:∀{Qp:List Nat} {i l:Nat},Qp[i]? = some l->WA n Qp i=l
 | [],i,l,h=>by simp at h
 | k::r,0,l,h=>by simp at h;simp[WA,h]
 | k::r,i+1,l,h=>by simp at h;simp[WA,aj h]
def Qau{n}:∀{Qp:List Nat} {i:Nat},WA n Qp (Qp.length+i)=n+i
 | [],i=>by simp[WA]
 | k::r,i=>by
  rw[show (k::r).length+i=(r.length+i)+1 by simp;omega];simp only[WA];exact Qau
def iv{n:Type}:∀{Qp:List Nat} {h a:List n},Wp h.length Qp=true->AS Qp=true->Qp.length<=a.length->∀(i:Nat),i<a.length->(Xw h Qp a)[WA h.length Qp i]? = a[i]?
 | [],h,a,_,_,_,i,f=>by
  simp only[Xw,WA];rw[JE ω];congr 1;omega
 | k::r,h,[],_,_,o,i,f=>by simp at f
 | k::r,h,x::a,l,g,o,i,f=>by
  simp only[Wp,ZH,vJ]at l;simp only[AS,ZH,qZ]at g;simp only[Xw];have b:(h.set k x).length=h.length:=σ;cases i with
  | zero=>
   have s:k ∉ r:=λd=>by rw[vV.2 d]at g;cases g.1
   have m:∀(r:List Nat) (c a:List n),k ∉ r->k<c.length->(Xw c r a)[k]? = c[k]? := by
    intro r;induction r with
    | nil=>intro c a _ Qc;simp only[Xw];rw[JD Qc]
    | cons j r q=>
     intro c a d Qc;cases a with
     | nil=>rfl
     | cons y p=>
      simp only[Xw];rw[q (c.set j y) p (λt=>d (Km _ t)) (by simpa using Qc),Jf (λe=>d (by rw[e];exact K8))]
   simp only[WA];rw[m r (h.set k x) a s (by simpa using l.1)];simp[l.1]
  | succ i=>
   simp only[WA];rw[<- b];exact iv (by rw[b];exact l.2) g.2 (by simpa using o) i (by simpa using f)
def Ml{d:Type}:∀{Qp:List Nat} {h b:List d} {l:Nat},l<h.length->l ∉ Qp->(Xw h Qp b)[l]? = h[l]?
 | [],h,b,l,a,_=>by simp only[Xw];rw[JD a]
 | k::r,h,[],l,a,_=>rfl
 | k::r,h,x::b,l,a,c=>by
  simp only[Xw];rw[Ml (by simpa using a) (λf=>c (Km _ f)),Jf (λe=>c (by rw[e];exact K8))]
def ak{c:Type}:∀{Qp:List Nat} {h a:List c},Qp.length<=a.length->(Xw h Qp a).length=h.length+(a.length - Qp.length)
 | [],h,a,_=>by simp[Xw]
 | k::r,h,[],b=>by simp at b
 | k::r,h,x::a,b=>by
  simp only[Xw];rw[ak (by simpa using b)];simp
def QkP{d:Type}{a:List Nat}{h b:List d}(j:Wp h.length a=true)(g:a.length<=b.length){l}(k:l<h.length+(b.length - a.length)):
  (∃i,i<b.length/\l=WA h.length a i)\/(l<h.length/\l ∉ a):=by
 by_cases Qc:l<h.length
 .by_cases c:l∈a
  .obtain⟨i,f,e⟩:=yh c;exact .inl ⟨i,ω,(aj (by rw[QP f,e])).symm⟩
  .exact .inr ⟨Qc,c⟩
 .refine .inl ⟨a.length+(l - h.length),ω,?_⟩;rw[Qau];omega
section
variable {P:Program}{base nt:Nat}{w0:Start}{Q:Exit->St->Prop}
def zU(h:List Ob)(a:List Nat)(b:List Ob):List Ob:=Xw h a (b.map (Ob.idx (WA h.length a)))
def QkQ{Z}{s:St}{f}{w J:World}{a}(R:Zg Z base s.h f w)(QU:base<=w.heap.size)(hz:∀b,w.heap.size<=b->Z b)(hb:Wp s.h.length a=true)(hd:AS a=true)
  {n:List Ob} {m:List Pl} {d:D} {v:Value} {F:List Ob} (hF:F.length=a.length) (TA:∀(i:Nat) (o u:Ob),F[i]? = some o->(∃l,a[i]? = some l/\s.h[l]? = some u)->o.gen=u.gen/\o.sz=u.sz/\o.kd.ty=u.kd.ty)
  (O':Zg (λb=>Z b/\∀l q,f[l]? = some (some (b,q))->l∈a) base n m J) (V':Qy (λb=>Z b/\∀l q,f[l]? = some (some (b,q))->l∈a) n m J d v)
  (T:Tr F (jK f a) w n m J) (B:Below base w J) :
  Tr s.h f w (zU s.h a n) (Xw f a m) J/\Zg Z base (zU s.h a n) (Xw f a m) J/\Qy Z (zU s.h a n) (Xw f a m) J (d.idx (WA s.h.length a)) v:=by
 have S:Wp f.length a=true:=by rw[R.len];exact hb
 have iw:m.length=n.length:=O'.len;have Mm:∀(i l:Nat),a[i]? = some l->∃u p E M,s.h[l]? = some u/\f[l]? = some p/\n[i]? = some E/\m[i]? = some M/\u.gen<=E.gen/\E.kd.ty=u.kd.ty/\(E.gen=u.gen->E.sz=u.sz/\M=p):=by
  intro i l e;have t:i<a.length:=(Wh.1 e).1;have hl:l<s.h.length:=Qao hb l (OJ e);have O:F[i]? = some (F[i]'ω):=QP _;have g:s.h[l]? = some s.h[l]:=QP hl;have Z7:l<f.length:=by rw[R.len];exact hl
  have C:f[l]? = some f[l]:=QP Z7;obtain⟨V,k2,K⟩:=TA i _ _ O ⟨l,e,g⟩;obtain⟨E,M,t1,t2,t3,t4,t5⟩:=T.obj i _ f[l] O (by rw[AT S i l e,C]);exact⟨_,_,E,M,g,C,t1,t2,ω,by rw[t4,K],λx=>by obtain⟨y,z⟩:=t5 ω;exact⟨by rw[y,k2],z⟩⟩
 have AU:a.length<=n.length:=by
  rcases Nat.eq_zero_or_pos a.length with h0|h0
  .omega
  .obtain⟨_,_,E,_,_,_,h3,_⟩:=Mm (a.length - 1) _ (QP ω);have:=Kh h3;omega
 have an:a.length<=m.length:=ω;have hN:s.h.length=f.length:=R.len.symm;have aq:∀i,i<m.length->(Xw f a m)[WA s.h.length a i]? = m[i]? := λi t=>by rw[hN];exact iv S hd an i t
 have PJ:∀i,i<n.length->(zU s.h a n)[WA s.h.length a i]? = (n[i]?).map (Ob.idx (WA s.h.length a)):=λi t=>by
  unfold zU;rw[iv hb hd (by simpa using AU) i (by simpa using t),Kl]
 have r:∀(l b q:Nat),l ∉ a->f[l]? = some (some (b,q))->W0 m b/\J.heap[b]? = w.heap[b]? := λl b q L e=>by
  refine T.Kg b (λi Y e'=>?_) (R.lt e).1;have t:i<a.length:=by rw[<- Mj S];exact VM e'
  have g:a[i]? = some a[i]:=QP t;rw[AT S i _ g]at e';have:=R.inj _ _ _ _ _ e e';exact L (by rw[this];exact XK t)
 have W:∀(l:Nat) (p:Pl),(Xw f a m)[l]? = some p->(∃i,i<m.length/\l=WA s.h.length a i/\m[i]? = some p)\/(l<f.length/\l ∉ a/\f[l]? = some p):=λl p e=>by
  have Qc:=VM e;rw[ak an]at Qc;rcases QkP S an Qc with ⟨i,t,rfl⟩|⟨N,I⟩
  .rw[hN]at aq ⊢;exact .inl ⟨i,t,rfl,by rw[<- aq i t];exact e⟩
  .exact .inr ⟨N,I,by rw[Ml N I]at e;exact e⟩
 have LY:∀b,free (λb=>Z b/\∀l q,f[l]? = some (some (b,q))->l∈a) m b->free Z (Xw f a m) b:=λb hf=>⟨hf.1.1,λl q e=>by
  rcases W l _ e with ⟨i,_,_,g⟩|⟨_,I,g⟩
  .exact hf.2 i q g
  .exact I (hf.1.2 l q g)⟩
 have Zh:∀(l:Nat) (o:Ob) (p:Pl),n[l]? = some o->m[l]? = some p->∃E,(zU s.h a n)[WA s.h.length a l]? = some E/\(Xw f a m)[WA s.h.length a l]? = some p/\E.gen=o.gen/\E.sz=o.sz/\E.kd.ty=o.kd.ty:=λl o p h H=>
  ⟨o.idx (WA s.h.length a),by rw[PJ l (Kh h),h];rfl,by rw[aq l (VM H),H],rfl,rfl,rfl⟩
 have T2:Tr s.h f w (zU s.h a n) (Xw f a m) J:=by
  refine⟨λb eC Qc=>?_,λl o p h H=>?_,λl o E b q h Zw hg H c el hc=>?_⟩
  .obtain⟨N,I⟩:=T.Kg b (Qar S eC) Qc;refine⟨λl q e=>?_,I⟩;rcases W l _ e with ⟨i,_,_,g⟩|⟨_,_,g⟩
   .exact N i q g
   .exact eC l q g
  .by_cases L:l∈a
   .obtain⟨i,t,e⟩:=yh L;have g:a[i]? = some l:=by rw[QP t,e]
    obtain⟨u,p1,E,M,V,k2,K,k4,k5,k6,k7⟩:=Mm i l g;rw[h]at V;cases V;rw[H]at k2;cases k2;have FJ:WA s.h.length a i=l:=aj g;refine⟨E.idx (WA s.h.length a),M,by rw[<- FJ,PJ i (Kh K),K];rfl,by rw[<- FJ,aq i (VM k4),k4],k5,k6,k7⟩
   .exact⟨o,p,by unfold zU;rw[Ml (Kh h) L];exact h,by rw[Ml (VM H) L];exact H,QB _,rfl,λ_=>⟨rfl,rfl⟩⟩
  .by_cases L:l∈a
   .obtain⟨i,t,e⟩:=yh L;have g:a[i]? = some l:=by rw[QP t,e]
    obtain⟨u,p1,o1,M,V,k2,K,k4,k5,k6,k7⟩:=Mm i l g;rw[h]at V;cases V;have FJ:WA s.h.length a i=l:=aj g;rw[<- FJ,PJ i (Kh K),K]at Zw;cases Zw;have O:F[i]? = some (F[i]'ω):=QP _;obtain⟨f1,f2,f3⟩:=TA i _ _ O ⟨l,g,h⟩;have hg:o1.gen=o.gen:=hg;exact T.shape i _ o1 b q O K ω (by rw[AT S i l g,H]) c el hc
   .exact⟨c,by rw[(r l b q L H).2];exact hc,rfl⟩
 refine⟨T2,⟨?_,λl l' b q Y O g=>?_,λl o h H=>?_,λl o b q h H=>?_⟩,V'.idx _ LY Zh⟩
 .unfold zU;rw[ak an,ak (by simpa using AU)];simp[R.len,iw]
 .rcases W l _ O with ⟨i,t,rfl,C⟩|⟨N,I,C⟩<;>rcases W l' _ g with ⟨j,hj,rfl,e4⟩|⟨h3,h4,e4⟩
  .rw[O'.inj i j b q Y C e4]
  .exact absurd C ((r l' b Y h4 e4).1 i q)
  .exact absurd e4 ((r l b q I C).1 j Y)
  .exact R.inj l l' b q Y C e4
 .rcases W l _ H with ⟨i,t,rfl,C⟩|⟨N,I,C⟩
  .have U:i<n.length:=ω;rw[PJ i U,QP U]at h;cases h;exact O'.Vh i n[i] (QP U) C
  .unfold zU at h;rw[Ml ω I]at h;exact R.Vh l o h C
 .rcases W l _ H with ⟨i,t,rfl,C⟩|⟨N,I,C⟩
  .have U:i<n.length:=ω;rw[PJ i U,QP U]at h;cases h;obtain⟨g1,x⟩:=O'.at_ i _ b q (QP U) C;refine⟨g1,x.to rfl rfl rfl rfl (λk _=>v8 _ _) λk j v hk hj hr=>?_⟩;show Qy _ _ _ _ (nth (yI _ (n[i].row k)) j) v;rw[FI _ _ _ hj];exact hr.idx _ LY Zh
  .unfold zU at h;rw[Ml ω I]at h;obtain⟨g1,x⟩:=R.at_ l o b q h C;exact⟨g1,x.to rfl rfl rfl (r l b q I C).2 (λ_ _=>rfl) λi j v _ _ hr=>hr.tr T2⟩
def Qax(QU:base<=w0.w.heap.size){o:Oper}{s}{x}{c}{Zn:Array TypeId}{f}{B}{I}(hf:Qk P f)(ho:o.op=.call ⟨.value x,c,Zn⟩)
  (hx:Jo (Qo s.fr x)=some (f,B,I)) (g:List Nat) (p:Wp s.h.length g=true) (H:AS g=true) (iz:HN g (Yw s.h g)) (ar:yH g (ZS B I (c.toList.map (Qo s.fr)))=true)
  {R:D->List Ob->Prop} (hF:QI P f ((Yw s.h g).map (Ob.Xv g)) (jH g (ZS B I (c.toList.map (Qo s.fr)))) R)
  (M:Zj nt o.dst=true) {Z:Nat->Prop} (z:Ph w0 Z) (j:List Pl) (a:Act) (w:World) (r:Rel Z base nt s j a w) (b:KG Z base w0 s.h j w) (Q':Exit->Act->World->Prop) :
  o.wp P a w (λT y=>(g=[]->Ext w y)/\∃d h C,R d h/\Rel Z base nt ⟨Q8 s.fr o.dst (d.idx (WA s.h.length g)),zU s.h g h⟩ C T y/\KG Z base w0 (zU s.h g h) C y/\Tr s.h j w (zU s.h g h) C y/\∃v,T=a.put o.dst v) Q':=by
 obtain⟨V,hv,U,Dz⟩:=Pq (r.eval x) hx;have K:base<=w.heap.size:=K9 QU b.1.size;have S:∀b,w.heap.size<=b->Z b:=b.2.2.new;have Yx:Wp j.length g=true:=by rw[r.o.len];exact p
 have J:∀b,free Z j b->(Z b/\∀l q,j[l]? = some (some (b,q))->l∈g):=λk m=>⟨m.1,λl q e=>absurd e (m.2 l q)⟩;obtain⟨W,JX⟩:=Pr (r:=λd v=>Qy Z s.h j w d v) (nf:=B) U Dz (us:=c.toList.map a.eval) (args:=c.toList.map (Qo s.fr)) σ (λi n=>by
  have Ji:i<c.toList.length:=by simpa using n
  simp only[nth,QY,Q5,Kl];rw[QP Ji];exact r.eval _)
 have hc:=hF (λb=>Z b/\∀l q,j[l]? = some (some (b,q))->l∈g) base w (jK j g) (ZS B V (c.toList.map a.eval)) K
  (λk m=>⟨S k m,λl q e=>by have:=(r.o.lt e).1;omega⟩) (r.o.Qp J p H iz) (by rw[jJ];exact W) (λi n=>by
   rw[jJ]at n;rw[DK _ _ _ n];exact(JX i n).Qp J r.o.len p (Mi ar i n))
 unfold Oper.wp;rw[Ps hf ho hv w];simp only[Oper.upon_enter];refine hc.mono λe y he=>?_;obtain⟨v,d,h',C,rfl,hR,hO,hV,N,O⟩:=he;obtain⟨E,L,Y⟩:=QkQ r.o K S p H (F:=(Yw s.h g).map (Ob.Xv g)) (by rw[JV,ai p]) (λi o u e ⟨l,e1,e2⟩=>by
  rw[Kl,HM p i l e1,e2]at e;cases e;exact⟨rfl,rfl,rfl⟩) hO hV N O
 refine⟨λe=>by subst e;exact λk m=>(N.Kg k (λl q e=>by simp[jK]at e) m).2,d,h',Xw j g C,hR,?_,b.step E O,E,v,rfl⟩;cases H:o.dst with
 | none=>exact r.ym E L v
 | some t=>rw[H]at M;exact r.to E L (zQ M) Y
def kQ(QU:base<=w0.w.heap.size)(g){k}{H}{ty:TypeId}{pos}{I}{gd}{r}{s}{x}{n}{Zn:Array TypeId}{f}{T}{V}(hf:Qk P f)
  (hx:Jo (Qo s.fr x)=some (f,T,V)) {F:List Ob} {cs:List D} (JF:Wp s.h.length g=true/\AS g=true/\HN g (Yw s.h g)/\yH g (ZS T V (n.toList.map (Qo s.fr)))=true/\Ke (jH g (ZS T V (n.toList.map (Qo s.fr)))) cs/\AM ((Yw s.h g).map (Ob.Xv g)) F)
  {R:D->List Ob->Prop} (hF:QI P f F cs R) (ht:Zj nt H=true) (hk:∀d h,R d h->Qr P base nt w0 Q (.ops r::k) .normal ⟨Q8 s.fr H (d.idx (WA s.h.length g)),zU s.h g h⟩) :
  Qr P base nt w0 Q (.ops ((⟨H,.call ⟨.value x,n,Zn⟩,ty,pos,I,gd⟩,none)::r)::k) .normal s:=by
 simp only[Qr]at hk ⊢;obtain⟨hb,hd,iz,ar,he,y⟩:=JF;intro Z z S a w r b;simp only[X5,WQ,Va];have a1:=hF.args he;have a0:QI P f ((Yw s.h g).map (Ob.Xv g)) (jH g (ZS T V (n.toList.map (Qo s.fr)))) R:=by
  intro Z base w S vs h1 h2 M hl hc;have hw:=Wk.FF (m:=F.length) (fr:=[]) y;obtain⟨W,r',K⟩:=hw Z base 0 S { tmps:=#[],defers:=[] } w ⟨rfl,rfl,λt=>.cl _ _ (.undef _),M⟩;obtain⟨e1,e2⟩:=UL y;refine(a1 Z base w S vs h1 h2 ?_ hl (λi L=>(hc i L).FF y)).mono λe w' ⟨v,d,h,W,k1,k2,k3,k4,k5,k6⟩=>⟨v,d,h,W,k1,k2,k3,k4,?_,k6⟩
  .refine⟨by rw[e1];exact M.len,M.inj,λl B E C=>?_,λl B b q E C=>?_⟩
   .obtain⟨o,u,J⟩:=e2 l B E;rw[J.2.2.1];exact M.Vh l o u C
   .obtain⟨o,u,J,U,g6,g8,g7⟩:=e2 l B E;obtain⟨N,x⟩:=M.at_ l o b q u C;exact⟨λhr=>N (by rw[<- g8.2,hr]),x.to g8.1 U g6 rfl (λi L=>by rw[g7 i L]) λi j v L _ hr=>by rw[g7 i L];exact hr.FF y⟩
  .have O:∀(l:Nat) (o:Ob),((Yw s.h g).map (Ob.Xv g))[l]? = some o->∃B,F[l]? = some B/\LS o B:=λl o e=>by
    have:l<F.length:=by rw[e1];exact Kh e
    obtain⟨o2,u,J⟩:=e2 l _ (QP this);rw[e]at u;cases u;exact⟨_,QP this,J⟩
   refine⟨k5.Kg,λl o p E C=>?_,λl o TL b q E LB hg C c el hc=>?_⟩
   .obtain⟨Y,N,g2,u,J,U,g6⟩:=O l o E;obtain⟨B,p',t1,t2,t3,t4,t5⟩:=k5.obj l Y p N C;exact⟨B,p',t1,t2,ω,by rw[t4,U.1],λx=>by obtain⟨y1,y2⟩:=t5 ω;exact⟨by rw[y1,u],y2⟩⟩
   .obtain⟨Y,N,g2,u,J,U,g6⟩:=O l o E;exact k5.shape l Y TL b q N LB ω C c el hc
 exact Oper.wp_mono (λa' w' ⟨_,d,h,W,hR,r',b',_⟩=>hk d h hR Z z W a' w' r' b') (Qax QU hf rfl hx g hb hd iz ar a0 ht z S a w r b _)
def Qaz(M:base<=w0.w.heap.size){K}{g}{n:TypeId}{pos}{i}{H}{r}{s}{x}{c}{J:Array TypeId}{f}{j}{k}(B:Qk P f)
  (t:Jo (Qo s.fr x)=some (f,j,k)) {l:List D} (m:yH [] (ZS j k (c.toList.map (Qo s.fr)))=true/\Ke (jH [] (ZS j k (c.toList.map (Qo s.fr)))) l) {R:D->List Ob->Prop} (F:Q6 P f l R)
  (u:Zj nt g=true) (y:∀d h,R d h->AX P base nt w0 K r ⟨Q8 s.fr g (d.idx (WA s.h.length [])),zU s.h [] h⟩) :
  AX P base nt w0 K ((false,⟨g,.call ⟨.value x,c,J⟩,n,pos,i,H⟩,none)::r) s:=by
 simp only[AX,WR,Y7];intro Z z q a w o b;exact Oper.wp_mono (λO N ⟨C,d,h,L,E,p,I,T,v,e⟩=>⟨λ_=>C rfl,_,_,L,v,y d h E,p,I,T,e⟩) (Qax M B rfl t [] rfl rfl trivial m.1 (F.args m.2) u z q a w o b _)
end
attribute [go_sem] D.idx yI Ob.idx WA Xw zU AS PI
end Go.Fg
namespace Go.Fg
def au(a:List (Nat × D)):List Nat->List (Nat × D)
 | []=>[]
 | t::r=>(t,get a t)::au a r
attribute [go_sem] au
def xA{G:Type}(R:Nat->Prop)(V:Nat->G->List (Nat × D))(H:Nat->G->List Ob)(a:List (Nat × D))(i:Nat)(s:St):Prop:=R i/\∃b,s=⟨V i b++a,H i b⟩
def xA.mk{G:Type}{R}{V}{H}{a}{i}(b:G)(h:R i):xA R V H a i ⟨V i b++a,H i b⟩:=⟨h,b,rfl⟩
section
variable {P:Program}{base nt:Nat}{w0:Start}{Q:Exit->St->Prop}{k:List Item}
def HO{G:Type}(f)(R)(V:Nat->G->List (Nat × D))(H:Nat->G->List Ob)(N)(b:G){c}{j}{h}{a}(p:au j f=a)
  (m:QF w0 ⟨j,h⟩ ⟨V 0 b++a,H 0 b⟩) (o:R 0)
  (d:∀i g,i<=N->R i->Qr P base nt w0 (PH P base nt w0 Q k (xA R V H a) N i) [.code c] .normal ⟨V i g++a,H i g⟩):Qr P base nt w0 Q (.code (.loop c)::k) .normal ⟨j,h⟩:=
 Z4 (xA R V H a) N m ⟨o,b,rfl⟩ λi s n ⟨l,g,e⟩=>by subst e;exact d i g n l
end
section
variable {P:Program}{base:Nat}{w0:Start}{Q:Exit->St->Prop}{X:Cx}{nt n:Nat}{k k':List Item}{s s':St}
def jL{i N:Nat}(c:i<=N)(b:i<N->hx P base w0 Q X nt n k s)(a:i=N->hx P base w0 Q X nt n k' s'):Wo (decide (i<N)) (hz P base w0 Q X nt n k s) (hz P base w0 Q X nt n k' s'):=
 ⟨λh=>b (by simpa using h),λh=>a (by simp at h;omega)⟩
def jM{i N:Nat}(c:i<=N)(b:i<N->hx P base w0 Q X nt n k s)(a:i=N->hx P base w0 Q X nt n k' s'):Wo (decide ((i:Int)<(N:Int))) (hz P base w0 Q X nt n k s) (hz P base w0 Q X nt n k' s'):=
 ⟨λh=>b (by simpa using h),λh=>a (by simp at h;omega)⟩
def FK{p}[Decidable p](b:p->hx P base w0 Q X nt n k s)(a:¬ p->hx P base w0 Q X nt n k' s'):Wo (decide p) (hz P base w0 Q X nt n k s) (hz P base w0 Q X nt n k' s'):=
 ⟨λh=>b (Yo h),λh=>a (BG h)⟩
def FL{c:Type}[BEq c][LawfulBEq c]{a b:c}(e:a=b->hx P base w0 Q X nt n k s)(d:a≠b->hx P base w0 Q X nt n k' s'):Wo (a==b) (hz P base w0 Q X nt n k s) (hz P base w0 Q X nt n k' s'):=
 ⟨λh=>e (by simpa using h),λh=>d (by simpa using h)⟩
def FM{c:Type}[BEq c][LawfulBEq c]{a b:c}(e:a≠b->hx P base w0 Q X nt n k s)(d:a=b->hx P base w0 Q X nt n k' s'):Wo (a != b) (hz P base w0 Q X nt n k s) (hz P base w0 Q X nt n k' s'):=
 ⟨λh=>e (by simpa using h),λh=>d (by simpa using h)⟩
def FN{K b}{l a}{p}[Decidable p](d:p->KB P base w0 X nt K l s)(c:¬ p->KB P base w0 X nt b a s'):Wo (decide p) (qG P base w0 X nt K l s) (qG P base w0 X nt b a s'):=
 ⟨λh=>d (Yo h),λh=>c (BG h)⟩
def FO{K e:St->Prop}{l d:List (Bool × Oper × G)}{c:Type}[BEq c][LawfulBEq c]{a b:c}(g:a=b->KB P base w0 X nt K l s)(f:a≠b->KB P base w0 X nt e d s'):Wo (a==b) (qG P base w0 X nt K l s) (qG P base w0 X nt e d s'):=
 ⟨λh=>g (by simpa using h),λh=>f (by simpa using h)⟩
def FP{K e:St->Prop}{l d:List (Bool × Oper × G)}{c:Type}[BEq c][LawfulBEq c]{a b:c}(g:a≠b->KB P base w0 X nt K l s)(f:a=b->KB P base w0 X nt e d s'):Wo (a != b) (qG P base w0 X nt K l s) (qG P base w0 X nt e d s'):=
 ⟨λh=>g (by simpa using h),λh=>f (by simpa using h)⟩
end
end Go.Fg
namespace Go.Fg
open Go.RowKit (Below)
def rowFrom(b:Nat)(a:Nat->List D):Nat->List D:=λi=>a (b+i)
theorem iA(a):rowFrom 0 a=a:=by funext i;simp[rowFrom]
theorem DL(b)(a)(i):rowFrom b a i=a (b+i):=rfl
mutual
def D.fz(l k n h:Nat)(a:Nat->List D):D->D
 | .ref b g c e=>bif Nat.beq b l then (bif Nat.beq g k&&Nat.ble (c+e) n then .imm h e (rowFrom c a) else .undef) else .ref b g c e
 | .ptr b g i j=>bif Nat.beq b l then (bif Nat.beq g k&&Nat.blt i n&&Nat.ble j h then .ip ((a i).drop j) else .undef) else .ptr b g i j
 | .mref b g=>bif Nat.beq b l then .undef else .mref b g
 | .clo f o m=>.clo f o (q8 l k n h a m)
 | .agg m=>.agg (q8 l k n h a m)
 | .tup m=>.tup (q8 l k n h a m)
 | d=>d
def q8(l d n b:Nat)(a:Nat->List D):List D->List D
 | []=>[]
 | c::e=>c.fz l d n b a::q8 l d n b a e
end
def wa(l d n c)(a):∀b:List D,(q8 l d n c a b).length=b.length
 | []=>rfl
 | _::b=>by simp[q8,wa l d n c a b]
def FQ(l e n d)(a):∀(b:List D) (i:Nat),i<b.length->nth (q8 l e n d a b) i=(nth b i).fz l e n d a
 | [],i,h=>by simp at h
 | c::b,0,_=>by simp[q8,nth]
 | c::b,i+1,h=>by
  have:=FQ l e n d a b i (by simpa using h);simpa[q8,nth] using this
theorem QkU(l f n e)(d)(c)(a b):q8 l f n e d (bif c then a else b)=bif c then q8 l f n e d a else q8 l f n e d b:=by cases c<;>rfl
def Mp(l c n b:Nat)(a:Nat->List D):List (Nat × D)->List (Nat × D)
 | []=>[]
 | (t,d)::r=>(t,d.fz l c n b a)::Mp l c n b a r
def QaA(l c n b)(a):∀(e:List (Nat × D)) (t:Nat),get (Mp l c n b a e) t=(get e t).fz l c n b a
 | [],t=>rfl
 | (u,d)::r,t=>by
  simp only[Mp,get];cases Nat.beq u t
  .exact QaA l c n b a r t
  .rfl
def Ob.fz(l c n b:Nat)(a:Nat->List D)(o:Ob):Ob:=⟨o.kd,o.gen,o.sz,o.n,λi=>q8 l c n b a (o.row i)⟩
def Mq(l c n b:Nat)(a:Nat->List D):List Ob->List Ob
 | []=>[]
 | o::r=>o.fz l c n b a::Mq l c n b a r
def Mr(l c n b)(a):∀h:List Ob,Mq l c n b a h=h.map (Ob.fz l c n b a)
 | []=>rfl
 | o::r=>by simp[Mq,Mr l c n b a r]
def Ob.gone(o:Ob):Ob:=⟨.arr,o.gen+1,o.sz,0,λ_=>[]⟩
section
variable {Z:Nat->Prop}
def QkV{N}{w}(l E n y)(t){d:D}{v}(c:Cl N w d v):Cl N w (d.fz l E n y t) v:=by
 induction c with
 | raw v=>exact .raw v
 | undef v=>exact .undef v
 | nil a=>exact .nil a
 | imm s m r a u b o g C j B q p h=>exact .imm s m r a u b o g C j B q p
 | ip k b o g q p h=>exact .ip k b o g q p
 | clo f z x g j p h=>exact .clo f z _ g (by rw[wa];exact j) (λi e=>by rw[wa]at e;rw[FQ _ _ _ _ _ _ _ e];exact h i e)
 | agg x g j p h=>exact .agg _ g (by rw[wa];exact j) (λi e=>by rw[wa]at e;rw[FQ _ _ _ _ _ _ _ e];exact h i e)
 | tup x g j p h=>exact .tup _ g (by rw[wa];exact j) (λi e=>by rw[wa]at e;rw[FQ _ _ _ _ _ _ _ e];exact h i e)
def Qy.fz{h:List Ob}{t:List Pl}{w:World}{l:Nat}{o:Ob}{p:Pl}(ho:h[l]? = some o)(hp:t[l]? = some p)(hk:o.kd.ty=0)(E:∀b q,p=some (b,q)->Z b/\(∀m q',t[m]? = some (some (b,q'))->m=l)/\Lz Z h t w o b q)
  (Z1:∀i,i<o.n->(o.row i).all D.Yu=true) {h':List Ob} (hh:∀(m:Nat) (B:Ob),m≠l->h[m]? = some B->∃u,h'[m]? = some u/\u.gen=B.gen/\u.sz=B.sz/\u.kd.ty=B.kd.ty) {d:D} {v:Value} (r:Qy Z h t w d v) :
  Qy Z h' (t.set l none) w (d.fz l o.gen o.n o.sz o.row) v:=by
 have T:∀(m:Nat),m≠l->(t.set l none)[m]? = t[m]? := λm X3=>by rw[Jf (Q1 X3)]
 have Mc:∀b,W0 t b->W0 (t.set l none) b:=λb E m q e=>by
  by_cases K:m=l
  .subst K;rw[VX (VM hp)]at e;cases e
  .rw[T m K]at e;exact E m q e
 have Yt:∀b,free Z t b->free Z (t.set l none) b:=λb E=>⟨E.1,Mc b E.2⟩;have DM:∀b q,p=some (b,q)->free Z (t.set l none) b:=λb q e=>⟨(E b q e).1,λm q' e'=>by
  by_cases K:m=l
  .subst K;rw[VX (VM hp)]at e';cases e'
  .rw[T m K]at e';exact K ((E b q e).2.1 m q' e')⟩
 have BO:∀b q,p=some (b,q)->∃c el,w.heap[b]? = some (.cells c el (0,0))/\(∀i,i<o.n->(o.row i).length=o.sz)/\∃y:Nat->Nat->Value,∀i j,i<o.n->j<o.sz->w.cell? ⟨b,q+(i*o.sz+j),none⟩=some (y i j)/\Cl (free Z (t.set l none)) w (nth (o.row i) j) (y i j):=λb q e=>by
  obtain⟨c,el,h1,_,h3,h4⟩:=(E b q e).2.2;refine⟨c,el,h1,h3,λi j=>(c[q+(i*o.sz+j)]?).getD Go.undef,λi j n J=>?_⟩;obtain⟨u,hu,hr⟩:=h4 i j n J;refine⟨by rw[cell_of_row w b _ c el (0,0) h1,hu];simp[hu],?_⟩;simp only[hu,KV];have h5:=Z1 i n;rw[YS]at h5;have h6:j<(o.row i).length:=by rw[h3 i n];exact J
  have h7:(nth (o.row i) j).Yu=true:=h5 _ (by simp only[nth,Q5,QP h6,KV];exact XK h6);exact(FA hr h7).mono λx hx _=>⟨Yt x hx,rfl⟩
 induction r with
 | cl d v C=>exact .cl _ _ (QkV l o.gen o.n o.sz o.row (C.mono λb E _=>⟨Yt b E,rfl⟩))
 | ref m g s W B O a a0 z F L S I=>
  by_cases e:m=l
  .subst e;rw[ho]at z;cases z;rw[hp]at F;cases F;simp only[D.fz,Lu,ky];cases C:(Nat.beq g o.gen&&Nat.ble (s+W) o.n)
   .exact .cl _ _ (.undef _)
   .simp only[ky,ZH,VL,Nat.ble_eq]at C ⊢;rcases I C.1 with ⟨h1,h2⟩|⟨b,q,c,el,U,ha,FJ,Jx,BN⟩
    .subst h1;subst h2;exact .cl _ _ (.imm _ _ _ _ _ 0 0 (λ_ _=>Go.undef) (λh=>ω) ω (λi n=>ω) (λi j n=>ω) (λi j n=>ω))
    .obtain⟨c',Ue,k1,k2,y,P⟩:=BO b q U;refine .cl _ _ (.imm _ _ _ _ _ b (q+s*o.sz) (λi j=>y (s+i) j) (λ_=>ha) BN (λi n=>k2 _ ω) (λi j n J=>⟨DM b q U,?_⟩) (λi j n J=>(P (s+i) j ω J).2));rw[<- (P (s+i) j ω J).1,Vw,show q+s*o.sz+(i*o.sz+j)=q+(s*o.sz+i*o.sz+j) by omega]
  .have V:Nat.beq m l=false:=by rw[<- XY,VL];exact e
   simp only[D.fz,V,q5];obtain⟨u,N,H,Y,M⟩:=hh m B e z;exact .ref m g s W u O a a0 N (by rw[T m e];exact F) (by rw[M];exact L) (by rw[H];exact S) (by rw[H,Y];exact I)
 | ptr m g i j B O a z F L S I=>
  by_cases e:m=l
  .subst e;rw[ho]at z;cases z;rw[hp]at F;cases F;simp only[D.fz,Lu,ky];cases C:(Nat.beq g o.gen&&Nat.blt i o.n&&Nat.ble j o.sz)
   .exact .cl _ _ (.undef _)
   .simp only[ky,ZH,VL,Nat.ble_eq,vJ]at C ⊢;obtain⟨b,q,U,ha⟩:=I C.1.1;obtain⟨c',Ue,k1,k2,y,P⟩:=BO b q U;subst ha;have a1:((o.row i).drop j).length=o.sz - j:=by rw[List.length_drop,k2 i C.1.2]
    refine .cl _ _ (.ip _ b _ (λk=>y i (j+k)) (λk hk=>⟨DM b q U,?_⟩) (λk hk=>?_))
    .rw[<- (P i (j+k) C.1.2 ω).1];congr 1;simp
    .rw[Fh];exact(P i (j+k) C.1.2 ω).2
  .have V:Nat.beq m l=false:=by rw[<- XY,VL];exact e
   simp only[D.fz,V,q5];obtain⟨u,N,H,Y,M⟩:=hh m B e z;exact .ptr m g i j u O a N (by rw[T m e];exact F) (by rw[M];exact L) (by rw[H];exact S) (by rw[H,Y];exact I)
 | mref m g B O b z F L S I=>
  by_cases e:m=l
  .subst e;rw[ho]at z;cases z;exact absurd hk L.1
  .have V:Nat.beq m l=false:=by rw[<- XY,VL];exact e
   simp only[D.fz,V,q5];obtain⟨u,N,H,Y,M⟩:=hh m B e z;exact .mref m g u O b N (by rw[T m e];exact F) (by rw[M];exact L) (by rw[H];exact S) (by rw[H];exact I)
 | clo f nf cs y R hr Q=>exact .clo f nf _ y (by rw[wa];exact R) (λi n=>by rw[wa]at n;rw[FQ _ _ _ _ _ _ _ n];exact Q i n)
 | agg cs y R hr Q=>exact .agg _ y (by rw[wa];exact R) (λi n=>by rw[wa]at n;rw[FQ _ _ _ _ _ _ _ n];exact Q i n)
 | tup cs y R hr Q=>exact .tup _ y (by rw[wa];exact R) (λi n=>by rw[wa]at n;rw[FQ _ _ _ _ _ _ _ n];exact Q i n)
end
def QF.freeze{C:Start}(L:C.pl=[])(l){M}{h:List Ob}{o:Ob}(H:h[l]? = some o)(K:o.kd.ty=0)(R:∀i,i<o.n->(o.row i).all D.Yu=true):
  QF C ⟨M,h⟩ ⟨Mp l o.gen o.n o.sz o.row M,(Mq l o.gen o.n o.sz o.row h).set l o.gone⟩:=by
 intro Z z U nt g a w r b;have E:g.length=h.length:=r.o.len;have T:l<g.length:=by have m:=Kh H;omega
 have n:g[l]? = some g[l]:=QP T;generalize Uo:g[l]=p at n;have O:∀c,W0 C.pl c:=λc i q e=>by rw[L]at e;simp at e
 have iB:∀d c q:Nat,g[d]? = some (some (c,q))->C.w.heap.size<=c:=λd c q e=>by
  rcases Ar c C.w.heap.size with Qc|Y
  .exact absurd e ((b.2.1.Kg c (O c) Qc).1 d q)
  .exact Y
 have S:∀c q,p=some (c,q)->Z c/\(∀d F,g[d]? = some (some (c,F))->d=l)/\Lz Z h g w o c q:=λc q e=>by
  subst e;exact⟨b.2.2.own l c q n (iB l c q n),λd F e'=>r.o.inj _ _ _ _ _ e' n,(r.o.at_ l o c q H n).2.cells K⟩
 have P:∀(d:Nat) (y:Ob),d≠l->h[d]? = some y->∃u,((Mq l o.gen o.n o.sz o.row h).set l o.gone)[d]? = some u/\u.gen=y.gen/\u.sz=y.sz/\u.kd.ty=y.kd.ty:=λd y N e=>
  ⟨y.fz l o.gen o.n o.sz o.row,by rw[Jf (Q1 N),Mr,Kl,e];rfl,rfl,rfl,rfl⟩
 have Q:∀(d:Nat),d≠l->(g.set l none)[d]? = g[d]? := λd X3=>by rw[Jf (Q1 X3)]
 have V:(g.set l none)[l]? = some none:=VX T;have B:∀d c q:Nat,(g.set l none)[d]? = some (some (c,q))->d≠l/\g[d]? = some (some (c,q)):=λd c q e=>by
  by_cases f:d=l
  .subst f;rw[V]at e;cases e
  .exact⟨f,by rw[<- Q d f];exact e⟩
 refine⟨g.set l none,⟨r.nt,r.defers,λt=>?_,⟨?_,λk W c q F f s=>?_,λk I m f=>?_,λk I c q m f=>?_⟩⟩,b.1,⟨λc hb Qc=>?_,λk I p1 m f=>?_,λk I o2 c q m h2 hg f=>?_⟩,b.2.2.new,λk c q e h0=>b.2.2.own k c q (B _ _ _ e).2 h0⟩
 .show Qy Z _ _ w (get (Mp l o.gen o.n o.sz o.row M) t) _;rw[QaA];exact(r.fr t).fz H n K S R P
 .simp[Mr,E]
 .exact r.o.inj k W c q F (B _ _ _ f).2 (B _ _ _ s).2
 .by_cases s:k=l
  .subst s;rw[VX (by rw[Mr];simp;omega)]at m;cases m;rfl
  .rw[Jf (Q1 s),Mr,Kl]at m;rw[Q k s]at f;obtain⟨u,J,rfl⟩:=Xq.1 m;exact r.o.Vh k u J f
 .obtain⟨N,s⟩:=B _ _ _ f;rw[Jf (Q1 N),Mr,Kl]at m;obtain⟨u,J,rfl⟩:=Xq.1 m;obtain⟨g1,x⟩:=r.o.at_ k u c q J s;refine⟨g1,x.to rfl rfl rfl rfl (λi _=>wa _ _ _ _ _ _) λi j v hi hj hr=>?_⟩;show Qy Z _ _ w (nth (q8 _ _ _ _ _ (u.row i)) j) v;rw[FQ _ _ _ _ _ _ _ hj];exact hr.fz H n K S R P
 .obtain⟨k1,k2⟩:=b.2.1.Kg c hb Qc;exact⟨λd q e=>k1 d q (B _ _ _ e).2,k2⟩
 .rw[L]at f;simp at f
 .rw[L]at f;simp at f
attribute [go_sem] iA DL D.fz q8 QkU Mp Ob.fz Mq Ob.gone
end Go.Fg
namespace Go.Fg
def Yy(f:D->D->Prop):List D->List D->Prop
 | [],[]=>True
 | a::r,b::s=>f a b/\Yy f r s
 | _,_=>False
def JG:Nat->D->D->Prop
 | 0,d,c=>c=d
 | k+1,d,c=>match c with
  | .raw v=>d=.raw v
  | .undef=>True
  | .nil=>d=.nil
  | .imm z n r=>match d with
   | .imm e p h=>z=e/\n=p/\∀i,i<n->Yy (JG k) (h i) (r i)
   | .nil=>n=0
   | _=>False
  | .ip b=>match d with
   | .ip a=>Yy (JG k) a b
   | _=>False
  | .ref l g o n=>d=.ref l g o n
  | .ptr l g i j=>d=.ptr l g i j
  | .mref l g=>d=.mref l g
  | .clo f m b=>match d with
   | .clo q s a=>f=q/\m=s/\Yy (JG k) a b
   | _=>False
  | .agg b=>match d with
   | .agg a=>Yy (JG k) a b
   | _=>False
  | .tup b=>match d with
   | .tup a=>Yy (JG k) a b
   | _=>False
def wc{f}(h:∀d,f d d):∀l,Yy f l l
 | []=>trivial
 | a::r=>⟨h a,wc h r⟩
def qH:∀(k:Nat) (d:D),JG k d d
 | 0,_=>rfl
 | k+1,d=>by cases d<;>simp[JG]<;>first|exact wc (qH k) _|exact λ_ _=>wc (qH k) _
theorem QkX(k)(l):Yy (JG k) l l=True:=eq_true (wc (qH k) l)
def AV{f}:∀{l m:List D},Yy f l m->m.length=l.length/\∀i,i<l.length->f (nth l i) (nth m i)
 | [],[],_=>⟨rfl,λi c=>by simp at c⟩
 | [],_::_,h=>h.elim
 | _::_,[],h=>h.elim
 | a::r,b::s,h=>by
  obtain⟨e,d⟩:=AV h.2;refine⟨by simp[e],λi c=>?_⟩;cases i with
  | zero=>exact h.1
  | succ i=>have:=d i (by simpa using c);simpa[nth] using this
def Ms:∀(k:Nat) {N:Nat->Prop} {w:World} {d q:D} {v:Value},JG k d q->Cl N w d v->Cl N w q v
 | 0,_,_,d,q,v,h,c=>by have h:q=d:=h;subst h;exact c
 | k+1,N,w,d,q,v,h,c=>by
  cases q<;>simp only[JG]at h;case raw=>subst h;exact c
  case undef=>exact .undef _
  case nil=>subst h;exact c
  case imm z n r=>
   split at h
   .obtain⟨rfl,rfl,h⟩:=h;cases c with
    | imm _ _ _ a y b o e C s B t g=>
     exact .imm _ _ _ a y b o e C s (λi l=>by rw[(AV (h i l)).1];exact B i l) t (λi j l m=>Ms k ((AV (h i l)).2 j (by rw[B i l];exact m)) (g i j l m))
   .subst h;cases c with
    | nil a=>exact .imm _ _ _ _ _ 0 0 (λ_ _=>Go.undef) (λh=>ω) ω (λi l=>ω) (λi j l=>ω) (λi j l=>ω)
   .exact h.elim
  case ip x=>
   split at h
   .obtain⟨u,p⟩:=AV h;cases c with
    | ip _ b o e t g=>exact .ip _ b o e (λj m=>t j ω) (λj m=>Ms k (p j ω) (g j ω))
   .exact h.elim
  case ref=>subst h;exact c
  case ptr=>subst h;exact c
  case mref=>subst h;exact c
  case clo f E x=>
   split at h
   .obtain⟨rfl,rfl,h⟩:=h;obtain⟨u,p⟩:=AV h;cases c with
    | clo _ _ _ e s g=>exact .clo _ _ _ e ω (λj m=>Ms k (p j ω) (g j ω))
   .exact h.elim
  case agg x=>
   split at h
   .obtain⟨u,p⟩:=AV h;cases c with
    | agg _ e s g=>exact .agg _ e ω (λj m=>Ms k (p j ω) (g j ω))
   .exact h.elim
  case tup x=>
   split at h
   .obtain⟨u,p⟩:=AV h;cases c with
    | tup _ e s g=>exact .tup _ e ω (λj m=>Ms k (p j ω) (g j ω))
   .exact h.elim
def kR:∀(k:Nat) {Z:Nat->Prop} {h:List Ob} {z:List Pl} {w:World} {d m:D} {v:Value},JG k d m->Qy Z h z w d v->Qy Z h z w m v
 | 0,_,_,_,_,d,m,v,e,c=>by have e:m=d:=e;subst e;exact c
 | k+1,Z,h,z,w,d,m,v,e,c=>by
  cases c with
  | cl _ _ K=>exact .cl _ _ (Ms (k+1) e K)
  | ref l g B C o p a E t s u x q=>
   cases m<;>simp only[JG,reduceCtorEq]at e
   .exact .cl _ _ (.undef _)
   .cases e;exact .ref l g B C o p a E t s u x q
  | ptr l g i j o p a t s u x q=>
   cases m<;>simp only[JG,reduceCtorEq]at e
   .exact .cl _ _ (.undef _)
   .cases e;exact .ptr l g i j o p a t s u x q
  | mref l g o p b t s u x q=>
   cases m<;>simp only[JG,reduceCtorEq]at e
   .exact .cl _ _ (.undef _)
   .cases e;exact .mref l g o p b t s u x q
  | clo f L J n F r=>
   cases m<;>simp only[JG,reduceCtorEq]at e
   .exact .cl _ _ (.undef _)
   .obtain⟨rfl,rfl,e⟩:=e;obtain⟨I,y⟩:=AV e;exact .clo _ _ _ n ω (λj H=>kR k (y j ω) (r j ω))
  | agg J n F r=>
   cases m<;>simp only[JG,reduceCtorEq]at e
   .exact .cl _ _ (.undef _)
   .obtain⟨I,y⟩:=AV e;exact .agg _ n ω (λj H=>kR k (y j ω) (r j ω))
  | tup J n F r=>
   cases m<;>simp only[JG,reduceCtorEq]at e
   .exact .cl _ _ (.undef _)
   .obtain⟨I,y⟩:=AV e;exact .tup _ n ω (λj H=>kR k (y j ω) (r j ω))
def Told(R:D->List Ob->Prop)(d:D)(h:List Ob):Prop:=∃a,JG 6 d a/\R a h
def QI.Mt{P}{f}{F}{cs' b}{R}(h:QI P f F b R)(e:Yy (JG 6) cs' b):QI P f F cs' R:=λZ a w d c l k j n g=>by
 obtain⟨p,m⟩:=AV e;exact h Z a w d c l k j ω λi o=>kR 6 (m i ω) (g i ω)
def QaB(a:List (Nat × D)):List (Nat × D)->Prop
 | []=>True
 | (t,d)::r=>JG 6 (get a t) d/\QaB a r
def QaC(o a:Ob):Prop:=a.gen=o.gen/\a.sz=o.sz/\a.n=o.n/\a.kd.Pt o.kd/\∀i,i<o.n->Yy (JG 6) (o.row i) (a.row i)
def QaD:List Ob->List Ob->Prop
 | [],[]=>True
 | o::r,b::a=>QaC o b/\QaD r a
 | _,_=>False
section
variable {k:Nat}{d:D}
theorem QkY:JG k d d=True:=eq_true (qH k d)
theorem QkZ{v}:JG (k+1) d (.raw v)=(d=.raw v):=rfl
theorem Qk0:JG (k+1) d .undef=True:=rfl
theorem Qk1:JG (k+1) d .nil=(d=.nil):=rfl
theorem DN{z n a c}{r b}:JG (k+1) (.imm a c b) (.imm z n r)=(z=a/\n=c/\∀i,i<n->Yy (JG k) (b i) (r i)):=rfl
theorem Qk2{z n}{r}:JG (k+1) .nil (.imm z n r)=(n=0):=rfl
theorem Qk3{l g o n}:JG (k+1) d (.ref l g o n)=(d=.ref l g o n):=rfl
theorem Qk4{l g i j}:JG (k+1) d (.ptr l g i j)=(d=.ptr l g i j):=rfl
theorem Qk5{l g}:JG (k+1) d (.mref l g)=(d=.mref l g):=rfl
theorem Qk6{b a}:JG (k+1) (.ip a) (.ip b)=Yy (JG k) a b:=rfl
theorem Qk7{f c}{b g}{e a}:JG (k+1) (.clo c g a) (.clo f b e)=(f=c/\b=g/\Yy (JG k) a e):=rfl
theorem iC{b a}:JG (k+1) (.agg a) (.agg b)=Yy (JG k) a b:=rfl
theorem Qk8{b a}:JG (k+1) (.tup a) (.tup b)=Yy (JG k) a b:=rfl
theorem iE{f}:Yy f [] []=True:=rfl
theorem iF{f}{a b}{r s}:Yy f (a::r) (b::s)=(f a b/\Yy f r s):=rfl
end
attribute [go_sem] QkY QkZ Qk0 Qk1 DN Qk2 Qk3 Qk4 Qk5 Qk6 Qk7 iC Qk8 iE iF QkX QaB QaC QaD
end Go.Fg
namespace Go.Fg
open Go.RowKit (Below)
variable {Z:Nat->Prop}
def Qy.B7{h M:List Ob}{K}{w}(m:∀(l:Nat) (o:Ob),h[l]? = some o->∃c,M[l]? = some c/\c.gen=o.gen/\c.sz=o.sz/\c.kd.ty=o.kd.ty){d}{v}(r:Qy Z h K w d v):Qy Z M K w d v:=by
 induction r with
 | cl d v O=>exact .cl d v O
 | ref l g H I o p a J u t y z s=>
  obtain⟨c,C,k,F,B⟩:=m l o u;exact .ref l g H I c p a J C t (by rw[B];exact y) (by rw[k];exact z) (λe=>by rw[F];exact s (by rw[e,k]))
 | ptr l g i j o p a u t y z s=>
  obtain⟨c,C,k,F,B⟩:=m l o u;exact .ptr l g i j c p a C t (by rw[B];exact y) (by rw[k];exact z) (λe=>by rw[F];exact s (by rw[e,k]))
 | mref l g o p b u t y z s=>
  obtain⟨c,C,k,F,B⟩:=m l o u;exact .mref l g c p b C t (by rw[B];exact y) (by rw[k];exact z) (λe=>s (by rw[e,k]))
 | clo f N E n x L q=>exact .clo f N E n x q
 | agg E n x L q=>exact .agg E n x q
 | tup E n x L q=>exact .tup E n x q
def ZG{h:List Ob}{l:Nat}{o:Ob}(e:h[l]? = some o):(h.map Ob.ro)[l]? = some o.ro:=by rw[Kl,e];rfl
def DO{h:List Ob}{l:Nat}{o:Ob}(e:(h.map Ob.ro)[l]? = some o):∃a,h[l]? = some a/\o=a.ro:=by
 rw[Kl,Xq]at e;obtain⟨a,c,b⟩:=e;exact⟨a,c,b.symm⟩
@[go_sem] theorem QBA(k:Kd)(g z n)(r):Ob.ro ⟨k,g,z,n,r⟩=⟨k.toRo,g,z,n,r⟩:=rfl
theorem ro_ro(o:Ob):o.ro.ro=o.ro:=by
 obtain⟨k,g,z,n,r⟩:=o;cases k<;>rfl
def Kq(P:Program)(f:FuncId)(h:List Ob)(a:List D)(R:D->List Ob->Prop):Prop:=
 QI P f (h.map Ob.ro) a λd b=>∃g,b=h.map Ob.ro++g/\R d g
def Kq.mono{P}{f}{h}{a}{R b}(e:Kq P f h a R)(c:∀d g,R d g->b d g):Kq P f h a b:=QI.mono e λ_ _ ⟨g,j,i⟩=>⟨g,j,c _ _ i⟩
section
variable {P:Program}{base nt:Nat}{w0:Start}{Q:Exit->St->Prop}
def QaE(W:base<=w0.w.heap.size){o:Oper}{s}{x}{c}{V:Array TypeId}{f}{l}{u}(J:Qk P f)(H:o.op=.call ⟨.value x,c,V⟩)
  (E:Jo (Qo s.fr x)=some (f,l,u)) {R:D->List Ob->Prop} (S:QI P f s.h (ZS l u (c.toList.map (Qo s.fr))) R)
  (n:Zj nt o.dst=true) (g:List Pl) (a:Act) (w:World) (r:Rel Z base nt s g a w) (b:KG Z base w0 s.h g w) (Y:Exit->Act->World->Prop) :
  o.wp P a w (λq k=>∃d h j,R d h/\Rel Z base nt ⟨Q8 s.fr o.dst d,h⟩ j q k/\KG Z base w0 h j k/\Tr s.h g w h j k/\∃v,q=a.put o.dst v) Y:=by
 obtain⟨z,F,y,Dz⟩:=Pq (r.eval x) E;have B:base<=w.heap.size:=K9 W b.1.size;obtain⟨C,JX⟩:=Pr (r:=λd v=>Qy Z s.h g w d v) (nf:=l) y Dz (us:=c.toList.map a.eval) (args:=c.toList.map (Qo s.fr)) σ (λi I=>by
  have Ji:i<c.toList.length:=by simpa using I
  simp only[nth,QY,Q5,Kl];rw[QP Ji];exact r.eval _)
 have M:=S Z base w g (ZS l z (c.toList.map a.eval)) B b.2.2.new r.o C JX;unfold Oper.wp;rw[Ps J H F w];simp only[Oper.upon_enter];refine M.mono λe k K=>?_;obtain⟨v,d,U,j,rfl,O,p,N,m,T⟩:=K;refine⟨d,U,j,O,?_,b.step m T,m,v,rfl⟩;cases L:o.dst with
 | none=>exact r.ym m p v
 | some t=>rw[L]at n;exact r.to m p (zQ n) N
def Vo(L:base<=w0.w.heap.size){k}{e}{o:TypeId}{pos}{g}{F}{r}{s}{x}{c}{J:Array TypeId}{f}{i}{m}(y:Qk P f)
  (u:Jo (Qo s.fr x)=some (f,i,m)) {l:List D} (B:Ke (ZS i m (c.toList.map (Qo s.fr))) l)
  {R:D->List Ob->Prop} (E:QI P f s.h l R) (v:Zj nt e=true) (j:∀d h,R d h->Qr P base nt w0 Q (.ops r::k) .normal ⟨Q8 s.fr e d,h⟩) :
  Qr P base nt w0 Q (.ops ((⟨e,.call ⟨.value x,c,J⟩,o,pos,g,F⟩,none)::r)::k) .normal s:=by
 simp only[Qr]at j ⊢;intro Z z t a w p b;simp only[X5,WQ,Va];exact Oper.wp_mono (λI n ⟨d,h,K,C,q,H,_⟩=>j d h C Z z K I n q H) (QaE L y rfl u (E.args B) v t a w p b _)
def QaF(QU:base<=w0.w.heap.size){o:Oper}{s}{x}{k}{Zn:Array TypeId}{f}{I}{Qs}(hf:Qk P f)(h:o.op=.call ⟨.value x,k,Zn⟩)
  (hx:Jo (Qo s.fr x)=some (f,I,Qs)) {R:D->List Ob->Prop} (hF:Kq P f s.h (ZS I Qs (k.toList.map (Qo s.fr))) R)
  (Y:Zj nt o.dst=true) (y:List Pl) (a:Act) (w:World) (r:Rel Z base nt s y a w) (b:KG Z base w0 s.h y w) (Q':Exit->Act->World->Prop) :
  o.wp P a w (λa' E=>Ext w E/\∃d g B,R d g/\Rel Z base nt ⟨Q8 s.fr o.dst d,s.h++g⟩ B a' E/\KG Z base w0 (s.h++g) B E/\Tr s.h y w (s.h++g) B E/\∃v,a'=a.put o.dst v) Q':=by
 obtain⟨vs,hv,zR,Dz⟩:=Pq (r.eval x) hx;have U:base<=w.heap.size:=K9 QU b.1.size;obtain⟨q1,JX⟩:=Pr (r:=λd v=>Qy Z s.h y w d v) (nf:=I) zR Dz (us:=k.toList.map a.eval) (args:=k.toList.map (Qo s.fr)) σ (λi L=>by
  have Ji:i<k.toList.length:=by simpa using L
  simp only[nth,QY,Q5,Kl];rw[QP Ji];exact r.eval _)
 have W:∀(l:Nat) (o:Ob),s.h[l]? = some o->∃n,(s.h.map Ob.ro)[l]? = some n/\n.gen=o.gen/\n.sz=o.sz/\n.kd.ty=o.kd.ty:=λl o e=>⟨o.ro,ZG e,rfl,rfl,Kd.toRo_ty _⟩;have HQ:Zg Z w.heap.size (s.h.map Ob.ro) y w:=by
  refine⟨by simp[r.o.len],r.o.inj,λl o h u=>?_,λl o b q h u=>?_⟩
  .obtain⟨n,C,rfl⟩:=DO h;exact r.o.Vh l n C u
  .obtain⟨n,C,rfl⟩:=DO h;obtain⟨_,x⟩:=r.o.at_ l n b q C u;exact⟨λz=>(by rw[Pd,Kd.toRo_ro]at z;cases z),x.to (Kd.toRo_ty _) rfl rfl rfl (λ_ _=>rfl) λi j v _ _ z=>z.B7 W⟩
 have M:=hF Z w.heap.size w y (ZS I vs (k.toList.map a.eval)) (QB _) b.2.2.new HQ q1 (λi L=>(JX i L).B7 W);unfold Oper.wp;rw[Ps hf h hv w];simp only[Oper.upon_enter];refine M.mono λe E he=>?_;obtain⟨v,d,_,B,rfl,⟨g,rfl,hR⟩,F,hV,hT,J⟩:=he;have O:∀(l:Nat) (p:Pl),l<s.h.length->B[l]? = some p->y[l]? = some p:=λl p m e=>by
  have H:l<y.length:=by rw[r.o.len];exact m
  obtain⟨n,p',e1,K,_,_,e3⟩:=hT.obj l _ _ (ZG (QP m)) (QP H);rw[JD (by simpa using m),ZG (QP m)]at e1;cases e1;obtain⟨_,e4⟩:=e3 rfl;rw[e]at K;cases K;rw[e4];exact QP H
 have iw:∀(l:Nat) (p:Pl),l<s.h.length->y[l]? = some p->B[l]? = some p:=λl p m e=>by
  have H:l<B.length:=by have:=F.len;simp at this;omega
  have C:=O l _ m (QP H);rw[e]at C;cases C;exact QP H
 have T:Tr s.h y w (s.h++g) B E:=by
  refine⟨hT.Kg,λl o p h u=>⟨o,p,by rw[JD (Kh h)];exact h,iw l p (Kh h) u,QB _,rfl,λ_=>⟨rfl,rfl⟩⟩,λl o n b q h Zw hg u c el M=>⟨c,?_,rfl⟩⟩;rw[J.block b (r.o.lt u).1];exact M
 have V:∀(l:Nat) (o:Ob),(s.h.map Ob.ro++g)[l]? = some o->∃n,(s.h++g)[l]? = some n/\n.gen=o.gen/\n.sz=o.sz/\n.kd.ty=o.kd.ty:=λl o e=>by
  by_cases m:l<s.h.length
  .rw[JD (by simpa using m)]at e;obtain⟨n,C,rfl⟩:=DO e;exact⟨n,by rw[JD m];exact C,rfl,rfl,(Kd.toRo_ty _).symm⟩
  .rw[JE (by simpa using m)]at e;exact⟨o,by rw[JE ω];simpa using e,rfl,rfl,rfl⟩
 have Hu:Zg Z base (s.h++g) B E:=by
  refine⟨by have:=F.len;simpa using this,F.inj,λl o h u=>?_,λl o b q h u=>?_⟩
  .by_cases m:l<s.h.length
   .rw[JD m]at h;exact r.o.Vh l o h (O l _ m u)
   .refine F.Vh l o ?_ u;rw[JE ω]at h;rw[JE (by simpa using m)];simpa using h
  .by_cases m:l<s.h.length
   .rw[JD m]at h;have S:=O l _ m u;obtain⟨N,x⟩:=r.o.at_ l o b q h S;exact⟨N,x.to rfl rfl rfl (J.block b (r.o.lt S).1) (λ_ _=>rfl) λi j v _ _ z=>z.tr T⟩
   .have K:(s.h.map Ob.ro++g)[l]? = some o:=by
     rw[JE ω]at h;rw[JE (by simpa using m)];simpa using h
    obtain⟨N,x⟩:=F.at_ l o b q K u;exact⟨λz=>K9 U (N z),x.to rfl rfl rfl rfl (λ_ _=>rfl) λi j v _ _ z=>z.B7 V⟩
 refine⟨λb hb=>J.block b hb,d,g,B,hR,?_,b.step T (J.mono U),T,v,rfl⟩;cases hd:o.dst with
 | none=>exact r.ym T Hu v
 | some t=>rw[hd]at Y;exact r.to T Hu (zQ Y) (hV.B7 V)
def Kq.args{f}{h}{a b}{R}(c:Kq P f h b R)(e:Ke a b):Kq P f h a R:=QI.args c e
def AW(M:base<=w0.w.heap.size){k}{e}{p:TypeId}{pos}{i}{H}{r}{s}{x}{c}{K:Array TypeId}{f}{j}{n}(B:Qk P f)
  (v:Jo (Qo s.fr x)=some (f,j,n)) {m:List D} (C:Ke (ZS j n (c.toList.map (Qo s.fr))) m)
  {R:D->List Ob->Prop} (F:Kq P f s.h m R) (y:Zj nt e=true) (l:∀d g,R d g->Qr P base nt w0 Q (.ops r::k) .normal ⟨Q8 s.fr e d,s.h++g⟩) :
  Qr P base nt w0 Q (.ops ((⟨e,.call ⟨.value x,c,K⟩,p,pos,i,H⟩,none)::r)::k) .normal s:=by
 simp only[Qr]at l ⊢;intro Z z u a w q b;simp only[X5,WQ,Va];exact Oper.wp_mono (λJ o ⟨_,d,h,L,E,t,I,_⟩=>l d h E Z z L J o t I) (QaF M B rfl v (F.args C) y u a w q b _)
def PK(M:base<=w0.w.heap.size){K}{h}{m:TypeId}{pos}{i}{H}{r}{s}{x}{c}{J:Array TypeId}{f}{j}{l}(y:Qk P f)
  (q:Jo (Qo s.fr x)=some (f,j,l)) {k:List D} (B:Ke (ZS j l (c.toList.map (Qo s.fr))) k) {R:D->List Ob->Prop} (E:Kq P f s.h k R)
  (t:Zj nt h=true) (u:∀d g,R d g->AX P base nt w0 K r ⟨Q8 s.fr h d,s.h++g⟩) :
  AX P base nt w0 K ((false,⟨h,.call ⟨.value x,c,J⟩,m,pos,i,H⟩,none)::r) s:=by
 simp only[AX,WR,Y7];intro Z z p a w n b;exact Oper.wp_mono (λO N ⟨F,d,g,L,C,o,I,T,v,e⟩=>⟨λ_=>F,_,_,L,v,u d g C,o,I,T,e⟩) (QaF M y rfl q (E.args B) t p a w n b _)
def Qk9(N:base<=w0.w.heap.size){k}{d}{n:TypeId}{pos}{f}{C}{r}{s}{x}{li l c}{es}{seen}{q}
  (H:Qo s.fr x=.mref li 0) (M:s.h[li]? = some (XP l c c seen)) {kd:Kd} (R:kd.ty=1) (L:s.h[l]? = some (VE kd q c es)) (p:Zj nt d=true)
  (y:(∀e∈es,e.b∈seen)->Qr P base nt w0 Q (.ops r::k) .normal ⟨Q8 s.fr d (.tup [.raw (.bool false)]),s.h⟩)
  (u:∀e∈es,e.b ∉ seen->Qr P base nt w0 Q (.ops r::k) .normal ⟨Q8 s.fr d (.tup [.raw (.bool true),.raw (.int q e.k),e.v]),s.h.set li (XP l c c (seen++[e.b]))⟩) :
  Qr P base nt w0 Q (.ops ((⟨d,.next x false,n,pos,f,C⟩,none)::r)::k) .normal s:=by
 simp only[Qr]at y u ⊢;intro Z z h a w g b;have F:base<=w.heap.size:=K9 N b.1.size;simp only[X5,WQ,Va];unfold Oper.wp;rcases QjD (o:=⟨d,.next x false,n,pos,f,C⟩) rfl g F H M R L with ⟨m,j⟩|⟨e,K,m,v,E,j,T,O,V,B⟩
 .rw[j];simp only[Oper.upon_value];refine y m Z z h _ w ?_ b;have I:Qy Z s.h h w (.tup [.raw (.bool false)]) (.tuple #[.bool false]):=.tup _ [.bool false] rfl λi J=>match i,J with
   | 0,_=>.cl _ _ (.raw _)
  cases d with
  | none=>exact g.ym (Tr.refl _ _ _) g.o _
  | some t=>exact g.to (Tr.refl _ _ _) g.o (zQ p) I
 .rw[j];simp only[Oper.upon_value];refine u e K m Z z h _ E ?_ (b.step T B);cases d with
  | none=>exact g.ym T O _
  | some t=>exact g.to T O (zQ p) V
end
def QR(P:Program)(f:FuncId)(h:List Ob)(a:List D)(R:D->Prop):Prop:=Kq P f h a λd _=>d.upto h.length=true/\R d
def QR.mono{P}{f}{h:List Ob}{a}{R b}(e:QR P f h a R)(c:∀d,R d->b d):QR P f h a b:=Kq.mono e λ_ _ h=>⟨h.1,c _ h.2⟩
def QR.args{P}{f}{h}{a b}{R}(c:QR P f h b R)(e:Ke a b):QR P f h a R:=Kq.args c e
section
variable {P:Program}{base nt:Nat}{w0:Start}{Q:Exit->St->Prop}
def QaG(QU:base<=w0.w.heap.size){o:Oper}{s}{x}{c}{Zn:Array TypeId}{f}{z}{O}(hf:Qk P f)(u:o.op=.call ⟨.value x,c,Zn⟩)
  (hx:Jo (Qo s.fr x)=some (f,z,O)) {R:D->Prop} (hF:QR P f s.h (ZS z O (c.toList.map (Qo s.fr))) R)
  (J:Zj nt o.dst=true) (k:List Pl) (a:Act) (w:World) (r:Rel Z base nt s k a w) (b:KG Z base w0 s.h k w) (Q':Exit->Act->World->Prop) :
  o.wp P a w (λL p=>Ext w p/\∃d,R d/\Rel Z base nt ⟨Q8 s.fr o.dst d,s.h⟩ k L p/\KG Z base w0 s.h k p/\Tr s.h k w s.h k p/\∃v,L=a.put o.dst v) Q':=by
 obtain⟨T,hv,S,Dz⟩:=Pq (r.eval x) hx;have U:base<=w.heap.size:=K9 QU b.1.size;obtain⟨V,JX⟩:=Pr (r:=λd v=>Qy Z s.h k w d v) (nf:=z) S Dz (us:=c.toList.map a.eval) (args:=c.toList.map (Qo s.fr)) σ (λi m=>by
  have Ji:i<c.toList.length:=by simpa using m
  simp only[nth,QY,Q5,Kl];rw[QP Ji];exact r.eval _)
 have I:∀(l:Nat) (o:Ob),s.h[l]? = some o->∃h,(s.h.map Ob.ro)[l]? = some h/\h.gen=o.gen/\h.sz=o.sz/\h.kd.ty=o.kd.ty:=λl o e=>⟨o.ro,ZG e,rfl,rfl,Kd.toRo_ty _⟩;have k3:∀(g:List Ob) (l:Nat) (o:Ob),(s.h.map Ob.ro++g)[l]? = some o->∃h,(s.h++g)[l]? = some h/\h.gen=o.gen/\h.sz=o.sz/\h.kd.ty=o.kd.ty:=λg l o e=>by
  by_cases E:l<s.h.length
  .rw[JD (by simpa using E)]at e;obtain⟨h,n,rfl⟩:=DO e;exact⟨h,by rw[JD E];exact n,rfl,rfl,(Kd.toRo_ty _).symm⟩
  .rw[JE (by simpa using E)]at e;exact⟨o,by rw[JE ω];simpa using e,rfl,rfl,rfl⟩
 have HQ:Zg Z w.heap.size (s.h.map Ob.ro) k w:=by
  refine⟨by simp[r.o.len],r.o.inj,λl o u C=>?_,λl o b q u C=>?_⟩
  .obtain⟨h,n,rfl⟩:=DO u;exact r.o.Vh l h n C
  .obtain⟨h,n,rfl⟩:=DO u;obtain⟨_,x⟩:=r.o.at_ l h b q n C;exact⟨λB=>(by rw[Pd,Kd.toRo_ro]at B;cases B),x.to (Kd.toRo_ty _) rfl rfl rfl (λ_ _=>rfl) λi j v _ _ B=>B.B7 I⟩
 have hc:=hF Z w.heap.size w k (ZS z T (c.toList.map a.eval)) (QB _) b.2.2.new HQ V (λi m=>(JX i m).B7 I);unfold Oper.wp;rw[Ps hf u hv w];simp only[Oper.upon_enter];refine hc.mono λe p he=>?_;obtain⟨v,d,_,Qh,rfl,⟨g,rfl,hu,hR⟩,hO,hV,hT,K⟩:=he;have F:Ext w p:=λb hb=>K.block b hb;have N:Tr s.h k w s.h k p:=Tr.ext r.o F;have FR:Qy Z s.h k p d v:=by
  have n:=hV.take hu;have e1:(s.h.map Ob.ro++g).take s.h.length=s.h.map Ob.ro:=TB σ;have e2:Qh.take s.h.length=k:=by
   apply xh;intro i;rw[Xc];by_cases m:i<s.h.length
   .rw[Qf m];have M:i<k.length:=by rw[r.o.len];exact m
    obtain⟨h,p',H,Y,_,_,W⟩:=hT.obj i _ _ (ZG (QP m)) (QP M);rw[JD (by simpa using m),ZG (QP m)]at H;cases H;obtain⟨_,rfl⟩:=W rfl;rw[Y,QP M]
   .rw[Qe m,Dg (by rw[r.o.len];omega)]
  rw[e1,e2]at n;exact n.B7 λl o e=>by
   obtain⟨h,n,rfl⟩:=DO e;exact⟨h,n,rfl,rfl,(Kd.toRo_ty _).symm⟩
 refine⟨F,d,hR,?_,b.step N (K.mono U),N,v,rfl⟩;have y:=r.ext F;cases hd:o.dst with
 | none=>exact y.ym (Tr.refl _ _ _) y.o v
 | some t=>rw[hd]at J;exact y.to (Tr.refl _ _ _) y.o (zQ J) FR
def Xj(J:base<=w0.w.heap.size){k}{e}{o:TypeId}{pos}{g}{E}{r}{s}{x}{c}{I:Array TypeId}{f}{i}{m}(v:Qk P f)
  (t:Jo (Qo s.fr x)=some (f,i,m)) {l:List D} (y:Ke (ZS i m (c.toList.map (Qo s.fr))) l)
  {R:D->Prop} (C:QR P f s.h l R) (u:Zj nt e=true) (j:∀d,R d->Qr P base nt w0 Q (.ops r::k) .normal ⟨Q8 s.fr e d,s.h⟩) :
  Qr P base nt w0 Q (.ops ((⟨e,.call ⟨.value x,c,I⟩,o,pos,g,E⟩,none)::r)::k) .normal s:=by
 simp only[Qr]at j ⊢;intro Z z h a w p b;simp only[X5,WQ,Va];exact Oper.wp_mono (λH n ⟨_,d,B,q,F,_⟩=>j d B Z z h H n q F) (QaG J v rfl t (C.args y) u h a w p b _)
def Mu(J:base<=w0.w.heap.size){K}{g}{m:TypeId}{pos}{h}{F}{r}{s}{x}{c}{I:Array TypeId}{f}{j}{l}(u:Qk P f)
  (p:Jo (Qo s.fr x)=some (f,j,l)) {k:List D} (y:Ke (ZS j l (c.toList.map (Qo s.fr))) k) {R:D->Prop} (C:QR P f s.h k R)
  (q:Zj nt g=true) (t:∀d,R d->AX P base nt w0 K r ⟨Q8 s.fr g d,s.h⟩) :
  AX P base nt w0 K ((false,⟨g,.call ⟨.value x,c,I⟩,m,pos,h,F⟩,none)::r) s:=by
 simp only[AX,WR,Y7];intro Z z i a w n b;exact Oper.wp_mono (λM L ⟨E,d,B,o,H,T,v,e⟩=>⟨λ_=>E,_,_,i,v,t d B,o,H,T,e⟩) (QaG J u rfl p (C.args y) q i a w n b _)
end
def Qc{h:List Ob}{l}{o}(e:h[l]? = some o):l<h.length:=Kh e
def QG{h t:List Ob}{l}(a:l<h.length):(h++t)[l]? = h[l]? := JD a
def JZ{h t:List Ob}{n}(a:h.length=n):(h++t)[n]? = t[0]? := by rw[<- a,JE (QB _),Di]
def Vj{h t:List Ob}{n k}(a:h.length=n):(h++t)[n+k]? = t[k]? := by rw[<- a,JE ω,TC]
def B8{h t:List Ob}{l}{o}(a:l<h.length):(h++t).set l o=h.set l o++t:=Tw _ _ a
def ay{h t:List Ob}{n}{o}(a:h.length=n):(h++t).set n o=h++t.set 0 o:=by rw[<- a,Lr _ _ (QB _),Di]
def Qla{h t:List Ob}{n k}{o}(a:h.length=n):(h++t).set (n+k) o=h++t.set k o:=by rw[<- a,Lr _ _ ω,TC]
def Qv{h:List Ob}{l}{o}(a:l<h.length):(h.set l o)[l]? = some o:=VX a
def Qm{h:List Ob}{l m}{o}(a:l≠m):(h.set l o)[m]? = h[m]? := Jf a
def Qlb{P:Program}{X}(r:qE P X){f}{e:Func}{c}(n)(q:P.funcs[f]? = some e)(k:e.body=some c){h}{b:List D}{R}{j}{l}(v:e.ntmps=j)(x:e.results=l)(o:Nat.ble b.length j=true)
  (p:∀(a:Nat) (w:World) (i:List Pl) (F:List Ob),F=h.map Ob.ro->F.length=h.length->a<=w.heap.size->hx P a ⟨w,F,i⟩ (AK X.L l.toList λd m=>∃g,m=F++g/\d.upto F.length=true/\R d) X j n [.code c] ⟨jE b 0,F⟩):QR P f h b R:=
 (ig r n q k v x o λa w i k=>p a w i _ rfl σ k).mono λd m ⟨g,u,t,s⟩=>⟨g,u,by simpa using t,s⟩
def Yz{P:Program}{X}(q:qE P X){f}{e:Func}{c}(n)(p:P.funcs[f]? = some e)(k:e.body=some c){h}{b:List D}{R}{j}{l}(s:e.ntmps=j)(t:e.results=l)(m:Nat.ble b.length j=true)
  (o:∀(a:Nat) (w:World) (i:List Pl) (F:List Ob),F=h.map Ob.ro->F.length=h.length->a<=w.heap.size->hx P a ⟨w,F,i⟩ (AK X.L l.toList λd r=>∃g,r=F++g/\R d g) X j n [.code c] ⟨jE b 0,F⟩):Kq P f h b R:=
 ig q n p k s t m λa w i k=>o a w i _ rfl σ k
attribute [go_sem] UE UF vT Fw UD ue uf ud QjG ug QjH QjI Uy Uz LN Fs UB UC gv tS gu tR tT gw tU Qjp Qjq Qjr Qjs Pd Qjt Qju ro_ro BM
def Qa:(∀{h t:List Ob} {l:Nat},l<h.length->(h++t)[l]? = h[l]?)/\(∀{h t:List Ob} {n:Nat},h.length=n->(h++t)[n]? = t[0]?)/\(∀{h t:List Ob} {n k:Nat},h.length=n->(h++t)[n+k]? = t[k]?)/\(∀{h t:List Ob} {l:Nat} {o:Ob},l<h.length->(h++t).set l o=h.set l o++t)/\(∀{h t:List Ob} {n:Nat} {o:Ob},h.length=n->(h++t).set n o=h++t.set 0 o)/\(∀{h t:List Ob} {n k:Nat} {o:Ob},h.length=n->(h++t).set (n+k) o=h++t.set k o)/\(∀{d:Type} {a b:List d},(a++b).length=a.length+b.length)/\(∀{d:Type} {i:Nat} {a:d} {l:List d},(l.set i a).length=l.length)/\(∀{d:Type} (a b c:List d),a++b++c=a++(b++c))/\(∀{d:Type} {a b:d} (l:List d) {i:Nat},(l.set i a).set i b=l.set i b):=
 ⟨QG,JZ,Vj,B8,ay,Qla,JJ,Xd,Wx,λ_=>Jn _⟩
end Go.Fg
