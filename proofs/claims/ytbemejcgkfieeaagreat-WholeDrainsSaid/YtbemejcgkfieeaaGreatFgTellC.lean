/- Contracts and laws on the way to the statement. No conditions. -/
import Derived.Test.YtbemejcgkfieeaaGreatFgMapHC
import Derived.Scope
import Derived.OrdersHeld
set_option maxRecDepth 100000
set_option maxHeartbeats 16000000
set_option linter.unusedVariables false
set_option linter.unusedSimpArgs false
set_option linter.unusedSectionVars false
set_option linter.defProp false
namespace Go.Fg
open Go.RowKit (Below)
variable {Z:Nat->Prop}
structure Cx where
 L:Je
 E:Dr
def yw(X:Cx)(s:St):Op->Ev
 | .move x=>some (True,Qq s.fr x)
 | .assign x=>some (True,Qq s.fr x)
 | .pick c x y=>match Qq s.fr c with
  | .raw (.bool b)=>some (True,bif b then Qq s.fr x else Qq s.fr y)
  | _=>none
 | .binOp g t x y _=>match bT X.L g t (Qq s.fr x) (Qq s.fr y) with
  | some r=>some r
  | none=>cH X.E g t (Qq s.fr x) (Qq s.fr y)
 | .unOp u _ x=>match u,Qq s.fr x with
  | .not,.raw (.bool b)=>some (True,.raw (.bool (!b)))
  | .neg,.raw (.int k n)=>some (True,.raw (.int k (k.wrap (0 - n))))
  | .xor,.raw (.int k n)=>some (True,.raw (.int k (bits .xor k (if k.signed then -1 else k.max) n)))
  | _,_=>none
 | .convert a b x=>bY X.L a b (Qq s.fr x)
 | .build t parts=>match cA X.L s.fr t parts.toList with
  | some d=>some (True,d)
  | none=>none
 | .load t x=>IY X.L s.h t (Qq s.fr x)
 | .nilCheck x=>bif (Qq s.fr x).there then some (True,Qq s.fr x) else none
 | .fieldAddr t x f=>bU X.L t f (Qq s.fr x)
 | .field t x f=>bV X.L t f (Qq s.fr x)
 | .indexAddr t x i=>bW X.L s.h t (Qq s.fr x) (Qq s.fr i)
 | .index t x i=>bX X.L t (Qq s.fr x) (Qq s.fr i)
 | .extract x i=>match Qq s.fr x with
  | .tup l=>some (i<l.length,nth l i)
  | _=>none
 | .slice t x p q o=>match o with
  | none=>cD X.L s.fr s.h t (Qq s.fr x) p q
  | some _=>none
 | .makeFunc v first z=>match v,first with
  | .func f,⟨j⟩=>some (True,.clo f j.length ((j++z.toList).map (Qq s.fr)))
  | _,_=>none
 | .call ⟨.builtin b,⟨e⟩,⟨w⟩⟩=>match b,e,w with
  | .len,[x],[t]=>match bZ X.L t (Qq s.fr x) with
   | some r=>some r
   | none=>cS X.L s.h t (Qq s.fr x)
  | .max,[x,y],_=>match Qq s.fr x,Qq s.fr y with
   | .raw (.int k m),.raw (.int _ n)=>some (True,.raw (.int k (max m n)))
   | _,_=>none
  | .min,[x,y],_=>match Qq s.fr x,Qq s.fr y with
   | .raw (.int k m),.raw (.int _ n)=>some (True,.raw (.int k (min m n)))
   | _,_=>none
  | _,_,_=>none
 | .lookup t x i h=>match cR X.L s.h t (Qq s.fr x) (Qq s.fr i) h with
  | some r=>some r
  | none=>bif h then cX X.L X.E s.h t (Qq s.fr x) (Qq s.fr i) else none
 | _=>none
structure qU (P:Program) (X:Cx):Prop where
 L:Z9 P X.L
 E:AK P X.E
def Qct{P}{X}(g:qU P X){base nt}{s}{o:Oper}{p}{d}(h:yw X s o.op=some (p,d))(j:p):WA P base nt o s d:=by
 unfold yw at h;split at h;case h_1 x e=>simp only[Q6,Ze]at h;obtain⟨rfl,rfl⟩:=h;exact QbF (.inl e)
 case h_2 x e=>simp only[Q6,Ze]at h;obtain⟨rfl,rfl⟩:=h;exact QbF (.inr e)
 case h_3 c x y e=>
  split at h
  .rename_i b E;simp only[Q6,Ze]at h;obtain⟨rfl,rfl⟩:=h;exact QmL e E
  .cases h
 case h_4 H t x y F e=>
  split at h
  .rename_i r l;simp only[Q6]at h;subst h;exact QmK g.L e l j
  .exact Qnk g.E e h
 case h_5 u t x e=>
  split at h
  .rename_i b hx;simp only[Q6,Ze]at h;obtain⟨rfl,rfl⟩:=h;exact QmS e rfl hx
  .rename_i k n hx;simp only[Q6,Ze]at h;obtain⟨rfl,rfl⟩:=h;exact QmT e rfl hx
  .rename_i k n hx;simp only[Q6,Ze]at h;obtain⟨rfl,rfl⟩:=h;exact QmU e rfl hx
  .cases h
 case h_6 a b x e=>exact QmW g.L e h
 case h_7 t parts e=>
  split at h
  .rename_i N C;simp only[Q6,Ze]at h;obtain⟨rfl,rfl⟩:=h;exact Qnf g.L e C
  .cases h
 case h_8 t x e=>exact QbI g.L e h j
 case h_9 x e=>
  obtain⟨B,q⟩:=jP h;simp only[Q6,Ze]at q;obtain⟨rfl,rfl⟩:=q;exact QmV e rfl B
 case h_10 t x f e=>exact QmM g.L e h j
 case h_11 t x f e=>exact QmN g.L e h j
 case h_12 t x i e=>exact QmQ g.L e h j
 case h_13 t x i e=>exact QbK g.L e h j
 case h_14 x i e=>
  split at h
  .rename_i O hx;simp only[Q6,Ze]at h;obtain⟨rfl,rfl⟩:=h;exact QmR e hx j
  .cases h
 case h_15 t x K L J e=>
  split at h
  .exact Qnj g.L e h j
  .cases h
 case h_16 M first R e=>
  split at h
  .simp only[Q6,Ze]at h;obtain⟨rfl,rfl⟩:=h;exact QmZ e
  .cases h
 case h_17 b w Q e=>
  split at h
  .split at h
   .rename_i r l;simp only[Q6]at h;subst h;exact cn g.L e l
   .exact QnC g.L e rfl h j
  .split at h
   .rename_i k m z n hx v;simp only[Q6,Ze]at h;obtain⟨rfl,rfl⟩:=h;exact QmX e hx v
   .cases h
  .split at h
   .rename_i k m z n hx v;simp only[Q6,Ze]at h;obtain⟨rfl,rfl⟩:=h;exact QmY e hx v
   .cases h
  .cases h
 case h_18 t x i I e=>
  split at h
  .rename_i r l;simp only[Q6]at h;subst h;exact look_ok g.L e l j
  .obtain⟨rfl,q⟩:=jP h;exact QnR g.L g.E e q j
 case h_19=>cases h
def AO(X:Cx)(s:St):Op->Option (Prop × List Ob × D)
 | .alloc t=>match ty X.L t with
  | some y=>some (True,s.h++[⟨.one,0,(y.zero.map J8).length,1,λ_=>y.zero.map J8⟩],.ptr s.h.length 0 0 0)
  | none=>none
 | .box _ x=>match Yu (Qq s.fr x) with
  | some f=>some (True,s.h++[⟨.one,0,f.length,1,λ_=>f⟩],.ptr s.h.length 0 0 0)
  | none=>none
 | .store t a x=>match R4 X.L s.h t (Qq s.fr a) (Qq s.fr x) with
  | some (p,c)=>some (p,c,.undef)
  | none=>none
 | .buildSlice t e parts=>cB X.L s.fr s.h t e parts.toList
 | .call ⟨.builtin b,⟨d⟩,⟨j⟩⟩=>match b,d,j with
  | .append,[x,y],[t,g]=>bif Nat.beq t g then Dp X.L s.h t (Qq s.fr x) (Qq s.fr y) else none
  | .delete,[x,i],[t,_]=>match cU X.L s.h t (Qq s.fr x) (Qq s.fr i) with
   | some (p,c)=>some (p,c,.tup [])
   | none=>none
  | _,_,_=>none
 | .makeMap t h=>match h with
  | none=>NY X.L s.h t
  | some (.const (.int _ n))=>bif decide (0<=n) then NY X.L s.h t else none
  | some _=>none
 | .mapUpdate t x i v=>match GV X.L s.h t (Qq s.fr x) (Qq s.fr i) (Qq s.fr v) with
  | some (p,c)=>some (p,c,.undef)
  | none=>match cY X.L X.E s.h t (Qq s.fr x) (Qq s.fr i) (Qq s.fr v) with
   | some (p,c)=>some (p,c,.undef)
   | none=>none
 | .range t x=>cV X.L s.h t (Qq s.fr x)
 | _=>none
def QnT{L}{h}{t:TypeId}{s x}{r}(e:Dp L h t s x=some r):s=.nil\/∃l g a b,s=.ref l g a b:=by
 unfold Dp at e;split at e
 .split at e
  .exact .inl rfl
  .exact .inr ⟨_,_,_,_,rfl⟩
  .cases e
 .cases e
def Qcu{P}{X}(f:qU P X){base nt}{s}{o:Oper}{p}{B}{d}(h:AO X s o.op=some (p,B,d))(j:p):jQ P base nt o s B d:=by
 unfold AO at h;split at h;case h_1 t c=>
  split at h
  .rename_i y E;simp only[Q6,Ze]at h;obtain⟨rfl,rfl,rfl⟩:=h;exact Qm5 f.L c E
  .cases h
 case h_2 t x c=>
  split at h
  .rename_i K H;simp only[Q6,Ze]at h;obtain⟨rfl,rfl,rfl⟩:=h;exact Qm4 c H
  .cases h
 case h_3 t a x c=>
  split at h
  .rename_i u r m;simp only[Q6,Ze]at h;obtain⟨rfl,rfl,rfl⟩:=h;exact Qm3 f.L c m j
  .cases h
 case h_4 t z parts c=>exact Qng f.L c h j
 case h_5 b C L c=>
  split at h
  .obtain⟨w,q⟩:=jP h;have w:=RO w;subst w;rcases QnT q with e|⟨l,g,I,z,e⟩
   .rw[e]at q;exact Qnb f.L c e q j
   .rw[e]at q;exact Qnc f.L c e q j
  .split at h
   .rename_i u r m;simp only[Q6,Ze]at h;obtain⟨rfl,rfl,rfl⟩:=h;exact QnE f.L c m j
   .cases h
  .cases h
 case h_6 t J c=>
  split at h
  .exact Qcb f.L (.inl rfl) c h
  .rename_i k n;obtain⟨F,q⟩:=jP h;exact Qcb f.L (.inr ⟨k,n,rfl,qQ F⟩) c q
  .cases h
 case h_7 t x i v c=>
  split at h
  .rename_i u r m;simp only[Q6,Ze]at h;obtain⟨rfl,rfl,rfl⟩:=h;exact QnD f.L c m j
  .split at h
   .rename_i u r m;simp only[Q6,Ze]at h;obtain⟨rfl,rfl,rfl⟩:=h;exact QnS f.L f.E c m j
   .cases h
 case h_8 t x c=>exact QnH f.L c h j
 case h_9=>cases h
abbrev G:=Option (Option Nat × Bool)
def guardOf(a:Array Oper)(o:Oper):G:=match o.guard with
 | none=>none
 | some (j,b)=>some ((a[j]?).bind (·.dst),b)
def strip(o : Oper): Oper := ⟨o.dst, o.op, o.type, "", #[], none⟩
theorem QnU{P}{o:Oper}{a}{w}{K}{Q}:(strip o).wp P a w K Q=o.wp P a w K Q:=rfl
def BX(a:Array Oper):List (Oper × G):=a.toList.map λo=>(strip o,guardOf a o)
def N3(a:Array Value)(t:Nat):Option Bool:=match a[t]? with
 | some (.bool b)=>some b
 | _=>none
def XA(g:G)(a:Array Value):Bool:=match g with
 | none=>true
 | some (none,_)=>false
 | some (some t,b)=>N3 a t==some b
def N4(c)(o)(a):Region.wanted o (yielded c a)=XA (guardOf c o) a:=by
 unfold Region.wanted guardOf XA;cases g:o.guard with
 | none=>rfl
 | some e=>
  obtain⟨j,b⟩:=e;dsimp only;cases d:(c[j]?).bind (·.dst) with
  | none=>simp[yielded,d]
  | some t=>
   simp only[yielded,d,bD,N3];cases f:a[t]? with
   | none=>rfl
   | some v=>cases v<;>rfl
def qk(P:Program)(Q:Exit->Act->World->Prop):List (Oper × G)->Act->World->Prop
 | [],a,w=>Q .normal a w
 | (o,g)::r,a,w=>if XA g a.tmps=true then o.wp P a w (qk P Q r) Q else qk P Q r (a.put o.dst Go.undef) w
def nS{P}{b:Array Oper}{Q}:∀(n i:Nat) (a:Act) (w:World),i+n=b.size->qk P Q ((BX b).drop i) a w->wpOps P b Q (List.range' i n) a w
 | 0,i,a,w,m,h=>by
  have:(BX b).drop i=[]:=aW (by simp[BX];omega);rw[this]at h;exact h
 | n+1,i,a,w,m,h=>by
  have Qc:i<b.size:=ω;have o:(BX b).drop i=(strip b[i],guardOf b b[i])::(BX b).drop (i+1):=by
   rw[RI (by simp[BX];omega)];simp[BX]
  rw[o]at h;rw[List.range'_succ];simp only[wpOps,jK Qc,N4];simp only[qk]at h;split at h
  .rename_i g;rw[Qe g];refine .inl ?_;have d:∀(K k:Act->World->Prop),(∀a w,K a w->k a w)->b[i].wp P a w K Q->b[i].wp P a w k Q:=by
    intro K k j c;unfold Oper.wp at *;generalize (execOp a.eval b[i]).run P w=r at *;cases r with
    | ok x l=>
     cases x<;>simp only[Oper.upon]at c ⊢<;>first|exact j _ _ c|exact c|skip
     .exact c.mono λe p f=>by cases e<;>first|exact j _ _ f|exact f
     .exact c.mono λv p f=>j _ _ f
    | halt x l=>cases x<;>exact c
   rw[QnU]at h;exact d _ _ (λa w=>nS n (i+1) a w ω) h
  .rename_i g;rw[Qd g];exact nS n (i+1) _ w ω h
def QnV{P}{c}{b}{Q}{a}{w}(h:qk P Q (BX b) a w):(Code.region c b false).wp P Q a w:=
 wp_region (by rw[List.range_eq_range'];exact nS b.size 0 a w ω (by simpa using h))
structure Start where
 w:World
 F:List Ob
 pl:List Pl
structure Lo (Z:Nat->Prop) (w0:Start) (pl:List Pl) (w:World):Prop where
 new:∀b,w.heap.size<=b->Z b
 own:∀(l b q:Nat),pl[l]? = some (some (b,q))->w0.w.heap.size<=b->Z b
def Lo.step{Z}{d}{h h'}{c g}{w a:World}(S:Lo Z d c w)(T:Tr h c w h' g a)(p:w.heap.size<=a.heap.size):Lo Z d g a where
 new:=λb r=>S.new b ω
 own:=λl b q e n=>by
  rcases xn b w.heap.size with Qc|o
  .by_cases f:Xy c b
   .exact absurd e ((T.Ko b f Qc).1 l q)
   .obtain⟨j,m⟩:=Nw.1 f;obtain⟨i,k⟩:=Nw.1 m;exact S.own j b i (Classical.not_not.1 k) n
  .exact S.new b o
def Lo.start{Z}{a}{w0:Start}{h}{c}(R:Zl Z a h c w0.w)(d:∀b,w0.w.heap.size<=b->Z b):Lo Z w0 c w0.w where
 new:=d
 own:=λl b q e f=>absurd (R.lt e).1 ω
def Vg(Z:Nat->Prop)(b:Nat)(a:Start)(h:List Ob)(c:List Pl)(w:World):Prop:=Below b a.w w/\Tr a.F a.pl a.w h c w/\Lo Z a c w
def Vg.step{Z}{a}{d}{h h'}{e f}{w c}(S:Vg Z a d h e w)(T:Tr h e w h' f c)(b:Below a w c):Vg Z a d h' f c:=⟨S.1.trans b,S.2.1.trans T,S.2.2.step T b.size⟩
section
variable (P:Program)(base nt:Nat)(w0:Start)
def Sg(_:Start)(_:Nat->Prop):Prop:=True
def lift(Z:Nat->Prop)(Q:Exit->St->Prop)(e:Exit)(a:Act)(w:World):Prop:=∃s b,Q e s/\Rel Z base nt s b a w/\Vg Z base w0 s.h b w
def A(c:Code)(Q:Exit->St->Prop)(s:St):Prop:=∀(Z:Nat->Prop),Sg w0 Z->∀b a w,Rel Z base nt s b a w->Vg Z base w0 s.h b w->c.wp P (lift base nt w0 Z Q) a w
def AG(l:List (Oper × G))(Q:Exit->St->Prop)(s:St):Prop:=∀(Z:Nat->Prop),Sg w0 Z->∀b a w,Rel Z base nt s b a w->Vg Z base w0 s.h b w->qk P (lift base nt w0 Z Q) l a w
end
inductive Item where
 | code (c:Code)
 | ops (l:List (Oper × G))
 | inBlock (id:Nat)
 | inScope
def Qw(P:Program)(a d:Nat)(b:Start)(Q:Exit->St->Prop):List Item->Exit->St->Prop
 | [],e,s=>Q e s
 | .code c::k,.normal,s=>A P a d b c (Qw P a d b Q k) s
 | .code _::k,e,s=>Qw P a d b Q k e s
 | .ops l::k,.normal,s=>AG P a d b l (Qw P a d b Q k) s
 | .ops _::k,e,s=>Qw P a d b Q k e s
 | .inBlock id::k,.exit j,s=>if j=id then Qw P a d b Q k .normal s else Qw P a d b Q k (.exit j) s
 | .inBlock _::k,e,s=>Qw P a d b Q k e s
 | .inScope::_,.goto _,_=>False
 | .inScope::k,e,s=>Qw P a d b Q k e s
inductive Tree where
 | done (e:Exit) (s:St)
 | stop (k:List Item) (s:St)
 | vc (p:Prop) (t:Tree)
 | ite (b:Bool) (t e:Tree)
 | fail
def Tree.holds(P:Program)(a d:Nat)(c:Start)(Q:Exit->St->Prop):Tree->Prop
 | .done e s=>Q e s
 | .stop k s=>Qw P a d c Q k .normal s
 | .vc p t=>p/\t.holds P a d c Q
 | .ite b t e=>(b=true->t.holds P a d c Q)/\(b=false->e.holds P a d c Q)
 | .fail=>False
def jU(a:Nat):List Item->Option (List Item)
 | []=>none
 | .inBlock j::k=>bif Nat.beq a j then some k else jU a k
 | _::k=>jU a k
def Zg(a:List (Nat × D))(t:Option Nat)(d:D):List (Nat × D):=match t with
 | none=>a
 | some t=>put a t d
def Zn(a:Nat):Option Nat->Bool
 | none=>true
 | some t=>Nat.blt t a
def EX:Bool->Bool->Bool
 | true,x=>x
 | false,x=>!x
def Qcv(b x):EX b x=(x==b):=by cases b<;>cases x<;>rfl
def exec(X:Cx)(e:Nat):Nat->List Item->St->Tree
 | 0,k,s=>.stop k s
 | _+1,[],s=>.done .normal s
 | n+1,.inBlock _::k,s=>exec X e n k s
 | n+1,.inScope::k,s=>exec X e n k s
 | n+1,.code c::k,s=>match c with
  | .skip=>exec X e n k s
  | .label _=>exec X e n k s
  | .seq a b=>exec X e n (.code a::.code b::k) s
  | .cond c a b=>match Qq s.fr c with
   | .raw (.bool x)=>.ite x (exec X e n (.code a::k) s) (exec X e n (.code b::k) s)
   | _=>.fail
  | .block id c=>exec X e n (.code c::.inBlock id::k) s
  | .scope c=>exec X e n (.code c::.inScope::k) s
  | .exit id=>match jU id k with
   | some i=>exec X e n i s
   | none=>.done (.exit id) s
  | .ret=>.done .ret s
  | .region id f h=>bif h then .stop (.code (.region id f h)::k) s else exec X e n (.ops (BX f)::k) s
  | c=>.stop (.code c::k) s
 | n+1,.ops []::k,s=>exec X e n k s
 | n+1,.ops ((o,g)::r)::k,s=>match g with
  | none=>match yw X s o.op with
   | some (p,d)=>bif Zn e o.dst then .vc p (exec X e n (.ops r::k) ⟨Zg s.fr o.dst d,s.h⟩) else .fail
   | none=>match AO X s o.op with
    | some (p,j,d)=>bif Zn e o.dst then .vc p (exec X e n (.ops r::k) ⟨Zg s.fr o.dst d,j⟩) else .fail
    | none=>.stop (.ops ((o,none)::r)::k) s
  | some (none,_)=>bif Zn e o.dst then exec X e n (.ops r::k) ⟨Zg s.fr o.dst (.raw Go.undef),s.h⟩ else .fail
  | some (some t,b)=>match get s.fr t with
   | .raw (.bool x)=>.ite (EX b x) (exec X e n (.ops ((o,none)::r)::k) ⟨put s.fr t (.raw (.bool b)),s.h⟩)
     (bif Zn e o.dst then exec X e n (.ops r::k) ⟨Zg (put s.fr t (.raw (.bool (!b)))) o.dst (.raw Go.undef),s.h⟩ else .fail)
   | .raw (.tuple _)=>bif Zn e o.dst then exec X e n (.ops r::k) ⟨Zg s.fr o.dst (.raw Go.undef),s.h⟩ else .fail
   | _=>.fail
section
variable {P:Program}{base nt:Nat}{w0:Start}{Q:Exit->St->Prop}
def A.mono{c}{Q d}{s}(h:A P base nt w0 c Q s)(i:∀e s,Q e s->d e s):A P base nt w0 c d s:=
 λZ z g a w r b=>wp_mono (h Z z g a w r b) λ_ _ _ ⟨f,m,l,k,j⟩=>⟨f,m,i _ _ l,k,j⟩
def QnW{x y}{s}(h:A P base nt w0 x (λe c=>match e with | .normal=>A P base nt w0 y Q c|e=>Q e c) s):A P base nt w0 (.seq x y) Q s:=by
 intro Z z k a w r b;refine wp_seq (wp_mono (h Z z k a w r b) λe n j m=>?_);obtain⟨c,i,g,f,d⟩:=m;cases e with
 | normal=>exact g Z z i n j f d
 | exit id=>exact⟨c,i,g,f,d⟩
 | goto l=>exact⟨c,i,g,f,d⟩
 | ret=>exact⟨c,i,g,f,d⟩
 | panic o=>exact⟨c,i,g,f,d⟩
 | outgrown=>exact⟨c,i,g,f,d⟩
def QnX{n}{c}{s}(h:A P base nt w0 c (λe d=>match e with | .exit j=>if j=n then Q .normal d else Q (.exit j) d|e=>Q e d) s):A P base nt w0 (.block n c) Q s:=by
 intro Z z o a w r b;refine wp_block (wp_mono (h Z z o a w r b) λe u q p=>?_);obtain⟨d,k,f,i,g⟩:=p;cases e with
 | exit j=>
  simp only[Exit.inBlock];dsimp only at f;split
  .rename_i m;rw[Qe m]at f;exact⟨d,k,f,i,g⟩
  .rename_i m;rw[Qd m]at f;exact⟨d,k,f,i,g⟩
 | normal=>exact⟨d,k,f,i,g⟩
 | goto l=>exact⟨d,k,f,i,g⟩
 | ret=>exact⟨d,k,f,i,g⟩
 | panic t=>exact⟨d,k,f,i,g⟩
 | outgrown=>exact⟨d,k,f,i,g⟩
def QnY{c}{s}(h:A P base nt w0 c (λe d=>match e with | .goto _=>False|e=>Q e d) s):A P base nt w0 (.scope c) Q s:=by
 intro Z z m a w r b;refine wp_scope_straight (wp_mono (h Z z m a w r b) λe q o n=>?_);obtain⟨d,k,f,i,g⟩:=n;cases e with
 | goto l=>exact f.elim
 | normal=>exact⟨d,k,f,i,g⟩
 | exit j=>exact⟨d,k,f,i,g⟩
 | ret=>exact⟨d,k,f,i,g⟩
 | panic p=>exact⟨d,k,f,i,g⟩
 | outgrown=>exact⟨d,k,f,i,g⟩
def QnZ{c}{k}{s}(h:Qw P base nt w0 Q (.code c::.inScope::k) .normal s):Qw P base nt w0 Q (.code (.scope c)::k) .normal s:=by
 simp only[Qw]at h ⊢;refine QnY (h.mono λe b a=>?_);cases e<;>exact a
def ql{a b}{k}{s}(h:Qw P base nt w0 Q (.code a::.code b::k) .normal s):Qw P base nt w0 Q (.code (.seq a b)::k) .normal s:=by
 simp only[Qw]at h ⊢;refine QnW (h.mono λe d c=>?_);cases e<;>exact c
def Qn0{a}{c}{k}{s}(h:Qw P base nt w0 Q (.code c::.inBlock a::k) .normal s):Qw P base nt w0 Q (.code (.block a c)::k) .normal s:=by
 simp only[Qw]at h ⊢;refine QnX (h.mono λe d b=>?_);cases e<;>exact b
def Qn1{c}{x y}{k}{s:St}{t}(h:Qq s.fr c=.raw (.bool t))(g:t=true->Qw P base nt w0 Q (.code x::k) .normal s)(f:t=false->Qw P base nt w0 Q (.code y::k) .normal s):
  Qw P base nt w0 Q (.code (.cond c x y)::k) .normal s:=by
 simp only[Qw]at g f ⊢;intro Z z d a w r b;have e:=r.eval c;rw[h]at e;have:=Jt e;cases t
 .exact wp_cond_false this (f rfl Z z d a w r b)
 .exact wp_cond_true this (g rfl Z z d a w r b)
def Si{d}:∀{k b:List Item} {s:St},jU d k=some b->Qw P base nt w0 Q b .normal s->Qw P base nt w0 Q k (.exit d) s
 | [],b,s,h,_=>by simp[jU]at h
 | .code c::k,b,s,h,a=>by simp only[jU]at h;simp only[Qw];exact Si h a
 | .ops c::k,b,s,h,a=>by simp only[jU]at h;simp only[Qw];exact Si h a
 | .inScope::k,b,s,h,a=>by simp only[jU]at h;simp only[Qw];exact Si h a
 | .inBlock j::k,b,s,h,a=>by
  simp only[jU]at h;simp only[Qw];by_cases e:d=j
  .subst e;simp at h;subst h;rw[Qe rfl];exact a
  .have:Nat.beq d j=false:=by rw[<- Yq,Wo];exact e
   rw[this]at h;rw[Qd e];exact Si h a
def Sj{b}:∀{k:List Item} {s:St},jU b k=none->Q (.exit b) s->Qw P base nt w0 Q k (.exit b) s
 | [],s,_,a=>a
 | .code c::k,s,h,a=>by simp only[jU]at h;simp only[Qw];exact Sj h a
 | .ops c::k,s,h,a=>by simp only[jU]at h;simp only[Qw];exact Sj h a
 | .inScope::k,s,h,a=>by simp only[jU]at h;simp only[Qw];exact Sj h a
 | .inBlock j::k,s,h,a=>by
  simp only[jU]at h;simp only[Qw];by_cases d:b=j
  .subst d;simp at h
  .have:Nat.beq b j=false:=by rw[<- Yq,Wo];exact d
   rw[this]at h;rw[Qd d];exact Sj h a
def Sk:∀{k:List Item} {s:St},Q .ret s->Qw P base nt w0 Q k .ret s
 | [],_,a=>a
 | .code _::_,_,a=>by simp only[Qw];exact Sk a
 | .ops _::_,_,a=>by simp only[Qw];exact Sk a
 | .inBlock _::_,_,a=>by simp only[Qw];exact Sk a
 | .inScope::_,_,a=>by simp only[Qw];exact Sk a
def kZ{t}(h:Zn nt (some t)=true):t<nt:=by simpa[Zn,xm] using h
def Rel.skip{s:St}{b}{a:Act}{w}(r:Rel Z base nt s b a w){t}(c:Zn nt t=true):Rel Z base nt ⟨Zg s.fr t (.raw Go.undef),s.h⟩ b (a.put t Go.undef) w:=by
 cases t with
 | none=>exact r
 | some t=>exact r.to (Tr.ext r.o λ_ _=>rfl) r.o (kZ c) (.cl _ _ (.raw _))
def nT{o:Oper}{c}{s:St}{d}(h:WA P base nt o s d)(f:Zn nt o.dst=true)(i:AG P base nt w0 c Q ⟨Zg s.fr o.dst d,s.h⟩):AG P base nt w0 ((o,none)::c) Q s:=by
 intro Z z e a w r b;obtain⟨v,g,k⟩:=h Z e a w r;simp only[qk,XA,Vp];unfold Oper.wp;rw[k w λ_ _=>rfl];simp only[Oper.upon_value];refine i Z z e _ w ?_ b;cases j:o.dst with
 | none=>exact r
 | some t=>rw[j]at f;exact r.to (Tr.ext r.o λ_ _=>rfl) r.o (kZ f) g
def cZ(C:base<=w0.w.heap.size){o:Oper}{c}{s:St}{j}{d}(h:jQ P base nt o s j d)(l:Zn nt o.dst=true)(m:AG P base nt w0 c Q ⟨Zg s.fr o.dst d,j⟩):AG P base nt w0 ((o,none)::c) Q s:=by
 intro Z z q a w r b;obtain⟨v,i,k,e,g,p,x,n,_⟩:=h Z q a w r (Kv C b.1.size);have f:∀u,u=v->Rel Z base nt ⟨Zg s.fr o.dst d,j⟩ k (a.put o.dst u) i:=by
  rintro u rfl;cases B:o.dst with
  | none=>exact r.Av g p u
  | some t=>rw[B]at l;exact r.to g p (kZ l) x
 simp only[qk,XA,Vp];unfold Oper.wp;rcases e with e|⟨e,y⟩
 .rw[e];simp only[Oper.upon_value];exact m Z z k _ i (f v rfl) (b.step g n)
 .rw[e];simp only[Oper.upon_skip];exact m Z z k _ i (f _ y.symm) (b.step g n)
def nU{a:Array Value}{t}{b}(h:a.getD t Go.undef=.bool b):N3 a t=some b:=by
 unfold N3;rw[yh]at h;cases c:a[t]? with
 | none=>rw[c]at h;simp[Go.undef]at h
 | some v=>rw[c]at h;simp at h;rw[h]
def nV{a:Array Value}{t}{b}(h:a.getD t Go.undef=.tuple b):N3 a t=none:=by
 unfold N3;rw[yh]at h;cases c:a[t]? with
 | none=>rfl
 | some v=>rw[c]at h;simp at h;rw[h]
def Rel.tell{s:St}{b}{a:Act}{w}(r:Rel Z base nt s b a w){t}{d}(c:QC Z s.h b w d (a.tmps.getD t Go.undef)):Rel Z base nt ⟨put s.fr t d,s.h⟩ b a w:=
 ⟨r.nt,r.defers,λu=>by
  rw[EM];by_cases h:u=t
  .subst h;rw[Qe rfl];exact c
  .rw[Qd h];exact r.fr u,r.o⟩
def Qn2{o:Oper}{c}{s:St}{t}{b x}(k:get s.fr t=.raw (.bool x))(l:Zn nt o.dst=true\/x=b)
  (p:x=b->AG P base nt w0 ((o,none)::c) Q ⟨put s.fr t (.raw (.bool b)),s.h⟩) (n:x=(!b)->AG P base nt w0 c Q ⟨Zg (put s.fr t (.raw (.bool (!b)))) o.dst (.raw Go.undef),s.h⟩):AG P base nt w0 ((o,some (some t,b))::c) Q s:=by
 intro Z z e a w r h;have g:=r.fr t;rw[k]at g;have f:=Jt g;have m:=nU f;simp only[qk,XA,m];by_cases d:x=b
 .have:=p d Z z e a w (r.tell (by rw[f,d];exact .cl _ _ (.raw _))) h;simp only[qk,XA,Vp]at this;rw[Qe (by simp[d])];exact this
 .have i:x=(!b):=by cases x<;>cases b<;>simp_all
  rw[Qd (by simp[d])];have j:Rel Z base nt ⟨put s.fr t (.raw (.bool (!b))),s.h⟩ e a w:=r.tell (by rw[f,i];exact .cl _ _ (.raw _));exact n i Z z e _ w (j.skip (l.resolve_right d)) h
def Qcw{o:Oper}{c}{s:St}{g:Option Nat × Bool}(j:g.1=none\/∃t d,g.1=some t/\get s.fr t=.raw (.tuple d))(i:Zn nt o.dst=true)(h:AG P base nt w0 c Q ⟨Zg s.fr o.dst (.raw Go.undef),s.h⟩):AG P base nt w0 ((o,some g)::c) Q s:=by
 intro Z z f a w r l;obtain⟨k,b⟩:=g;have:XA (some (k,b)) a.tmps=false:=by
  rcases j with rfl|⟨t,d,rfl,hx⟩
  .rfl
  .have e:=r.fr t;rw[hx]at e;simp[XA,nV (Jt e)]
 simp only[qk,this,XZ,YF];exact h Z z f _ w (r.skip i) l
def k9{X}(j:qU P X)(m:base<=w0.w.heap.size):∀(n:Nat) (k:List Item) (s:St),(exec X nt n k s).holds P base nt w0 Q->Qw P base nt w0 Q k .normal s
 | 0,k,s,h=>by cases k<;>exact h
 | n+1,[],s,h=>h
 | n+1,.inBlock id::k,s,h=>by
  simp only[exec]at h;simp only[Qw];exact k9 j m n k s h
 | n+1,.inScope::k,s,h=>by
  simp only[exec]at h;simp only[Qw];exact k9 j m n k s h
 | n+1,.code c::k,s,h=>by
  cases c with
  | skip=>simp only[exec]at h;have:=k9 j m n k s h;simp only[Qw];exact λZ z q a w r b=>wp_skip ⟨s,q,this,r,b⟩
  | label l=>simp only[exec]at h;have:=k9 j m n k s h;simp only[Qw];exact λZ z q a w r b=>wp_label ⟨s,q,this,r,b⟩
  | seq x y=>simp only[exec]at h;exact ql (k9 j m n _ s h)
  | block id c=>simp only[exec]at h;exact Qn0 (k9 j m n _ s h)
  | cond c x y=>
   simp only[exec]at h;split at h
   .rename_i b J;exact Qn1 J (λe=>k9 j m n _ s (h.1 e)) (λe=>k9 j m n _ s (h.2 e))
   .exact h.elim
  | exit id=>
   simp only[exec]at h;simp only[Qw];split at h
   .rename_i H C;have:=Si C (k9 j m n H s h);exact λZ z q a w r b=>wp_exit ⟨s,q,this,r,b⟩
   .rename_i C;have:=Sj (P:=P) (base:=base) (nt:=nt) (w0:=w0) C h;exact λZ z q a w r b=>wp_exit ⟨s,q,this,r,b⟩
  | ret=>
   simp only[exec]at h;simp only[Qw];exact λZ z q a w r b=>wp_ret ⟨s,q,Sk h,r,b⟩
  | region id M L=>
   simp only[exec]at h;cases L
   .have:=k9 j m n _ s h;simp only[Qw]at this ⊢;exact λZ z q a w r b=>QnV (this Z z q a w r b)
   .exact h
  | loop c=>exact h
  | rangeFunc f O a b=>exact h
  | scope b=>simp only[exec]at h;exact QnZ (k9 j m n _ s h)
  | goto l=>exact h
  | refuse w=>exact h
 | n+1,.ops []::k,s,h=>by
  simp only[exec]at h;simp only[Qw];have:=k9 j m n k s h;exact λZ z q a w r b=>⟨s,q,this,r,b⟩
 | n+1,.ops ((o,g)::r)::k,s,h=>by
  have u:∀v,Zn nt o.dst=true\/True->(exec X nt n (.ops r::k) v).holds P base nt w0 Q->AG P base nt w0 r (Qw P base nt w0 Q k) v:=λv _ I=>by
   have:=k9 j m n (.ops r::k) v I;simpa only[Qw] using this
  cases g with
  | none=>
   simp only[exec]at h;simp only[Qw];split at h
   .rename_i p d B;cases i:Zn nt o.dst
    .rw[i]at h;exact h.elim
    .rw[i]at h;exact nT (Qct j B h.1) i (u _ (.inl i) h.2)
   .split at h
    .rename_i p R d B;cases i:Zn nt o.dst
     .rw[i]at h;exact h.elim
     .rw[i]at h;exact cZ m (Qcu j B h.1) i (u _ (.inl i) h.2)
    .simpa only[Tree.holds,Qw] using h
  | some g=>
   obtain⟨K,b⟩:=g;cases K with
   | none=>
    simp only[exec]at h;simp only[Qw];cases i:Zn nt o.dst
    .rw[i]at h;exact h.elim
    .rw[i]at h;exact Qcw (.inl rfl) i (u _ (.inl i) h)
   | some t=>
    simp only[exec]at h;simp only[Qw];split at h
    .rename_i x hx;simp only[Tree.holds,Qcv,zF,jN,ne_eq]at h;have E:=λe=>k9 j m n _ _ (h.1 e);simp only[Qw]at E;refine Qn2 hx ?_ E λe=>?_
     .by_cases F:x=b
      .exact .inr F
      .have:=h.2 F;cases i:Zn nt o.dst
       .rw[i]at this;exact this.elim
       .exact .inl rfl
     .have:=h.2 (by rw[e];cases b<;>simp);cases i:Zn nt o.dst
      .rw[i]at this;exact this.elim
      .rw[i]at this;exact u _ (.inl i) this
    .rename_i N hx;cases i:Zn nt o.dst
     .rw[i]at h;exact h.elim
     .rw[i]at h;exact Qcw (.inr ⟨t,_,rfl,hx⟩) i (u _ (.inl i) h)
    .exact h.elim
end
variable {Z:Nat->Prop}
mutual
def D.shift(k:Nat):D->D
 | .ref l g b c=>.ref (k+l) g b c
 | .ptr l g i j=>.ptr (k+l) g i j
 | .mref l g=>.mref (k+l) g
 | .clo f e a=>.clo f e (yx k a)
 | .agg a=>.agg (yx k a)
 | .tup a=>.tup (yx k a)
 | d=>d
def yx(k:Nat):List D->List D
 | []=>[]
 | c::a=>c.shift k::yx k a
end
def Ob.shift(k:Nat)(o:Ob):Ob:={ o with row:=λi=>yx k (o.row i) }
def xw(k):∀a:List D,(yx k a).length=a.length
 | []=>rfl
 | _::a=>by simp[yx,xw k a]
def G3(k):∀(a:List D) (i:Nat),i<a.length->nth (yx k a) i=(nth a i).shift k
 | [],i,h=>by simp at h
 | c::a,0,_=>by simp[yx,nth]
 | c::a,i+1,h=>by
  have:=G3 k a i (by simpa using h);simpa[yx,nth] using this
def QC.join{L}{h h':List Ob}{B t:List Pl}{w}(m:B.length=h.length)(R:∀b,free L t b->free Z (B++t) b){d}{v}(r:QC L h' t w d v):
  QC Z (h++h'.map (Ob.shift h.length)) (B++t) w (d.shift h.length) v:=by
 have K:∀(l:Nat) (o:Ob),h'[l]? = some o->(h++h'.map (Ob.shift h.length))[h.length+l]? = some (o.shift h.length):=λl o e=>by
  rw[Kh ω];simp[e]
 have M:∀(l:Nat) (p:Pl),t[l]? = some p->(B++t)[h.length+l]? = some p:=λl p e=>by
  rw[Kh ω,m];simp[e]
 have U:∀(d:D) (v:Value),Cl (free L t) w d v->QC Z (h++h'.map (Ob.shift h.length)) (B++t) w (d.shift h.length) v:=by
  intro d v u;have V:=u.mono (N':=free Z (B++t)) (w':=w) (λb S _=>⟨R b S,rfl⟩);clear u;induction V with
  | raw v=>exact .cl _ _ (.raw v)
  | undef v=>exact .cl _ _ (.undef v)
  | nil a=>exact .cl _ _ (.nil a)
  | imm Q n N a y b o k T m x u s q=>exact .cl _ _ (.imm Q n N a y b o k T m x u s)
  | ip z b o k u s q=>exact .cl _ _ (.ip z b o k u s)
  | clo f J I k m s q=>exact .clo f J _ k (by rw[xw];exact m) (λi c=>by rw[xw]at c;rw[G3 _ _ _ c];exact q i c)
  | agg I k m s q=>exact .agg _ k (by rw[xw];exact m) (λi c=>by rw[xw]at c;rw[G3 _ _ _ c];exact q i c)
  | tup I k m s q=>exact .tup _ k (by rw[xw];exact m) (λi c=>by rw[xw]at c;rw[G3 _ _ _ c];exact q i c)
 induction r with
 | cl d v u=>exact U d v u
 | ref l g O P o p a y E C F H x=>exact .ref _ g O P _ p a y (K l o E) (M l p C) F H x
 | ptr l g i j o p a E C F H x=>exact .ptr _ g i j _ p a (K l o E) (M l p C) F H x
 | mref l g o p b E C F H x=>exact .mref _ g _ p b (K l o E) (M l p C) F H x
 | clo f J I k m s q=>exact .clo f J _ k (by rw[xw];exact m) (λi c=>by rw[xw]at c;rw[G3 _ _ _ c];exact q i c)
 | agg I k m s q=>exact .agg _ k (by rw[xw];exact m) (λi c=>by rw[xw]at c;rw[G3 _ _ _ c];exact q i c)
 | tup I k m s q=>exact .tup _ k (by rw[xw];exact m) (λi c=>by rw[xw]at c;rw[G3 _ _ _ c];exact q i c)
def Tr.join{a}{h h'}{d k:List Pl}{w i:World}(R:Zl Z a h d w)(j:Below w.heap.size w i)(r:∀(l b q:Nat),k[l]? = some (some (b,q))->w.heap.size<=b):
  Tr h d w (h++h') (d++k) i where
 Ko:=λb m Qc=>by
  refine⟨λl q e=>?_,j.block b Qc⟩;by_cases n:l<d.length
  .rw[JO n]at e;exact m l q e
  .rw[Kh ω]at e;have:=r _ _ _ e;omega
 obj:=λl o p g f=>⟨o,p,by rw[JO (KA g)];exact g,by rw[JO (Wp f)];exact f,QB _,rfl,λ_=>⟨rfl,rfl⟩⟩
 shape:=λl o t b q g v u f c el s=>⟨c,by rw[j.block b (R.lt f).1];exact s,rfl⟩
def Zl.join{C}{d}{h h'}{k m}{w s:World}(R:Zl Z d h k w)(K:d<=w.heap.size)(y:Below w.heap.size w s)(p:Zl C w.heap.size h' m s)
  (H:∀b,free C m b->free Z (k++m) b) (r:∀(l b q:Nat),m[l]? = some (some (b,q))->w.heap.size<=b):Zl Z d (h++h'.map (Ob.shift h.length)) (k++m) s:=by
 have T:=Tr.join (h':=h'.map (Ob.shift h.length)) R y r;refine⟨by simp[R.len,p.len],?_,?_,?_⟩
 .intro l E b q I g f;by_cases e:l<k.length<;>by_cases z:E<k.length
  .rw[JO e]at g;rw[JO z]at f;exact R.inj _ _ _ _ _ g f
  .rw[JO e]at g;rw[Kh ω]at f;have:=(R.lt g).1;have:=r _ _ _ f;omega
  .rw[Kh ω]at g;rw[JO z]at f;have:=(R.lt f).1;have:=r _ _ _ g;omega
  .rw[Kh ω]at g f;have:=p.inj _ _ _ _ _ g f;omega
 .intro l o c a;by_cases e:l<h.length
  .rw[JO e]at c;rw[JO (by rw[R.len];exact e)]at a;exact R.V0 l o c a
  .rw[Kh ω]at c;rw[Kh (by rw[R.len];omega),R.len]at a;simp only[KP,X3]at c;obtain⟨n,u,rfl⟩:=c;exact p.V0 _ n u a
 .intro l o b q c a;by_cases e:l<h.length
  .rw[JO e]at c;rw[JO (by rw[R.len];exact e)]at a;obtain⟨B,x⟩:=R.at_ l o b q c a;exact⟨B,x.to rfl rfl rfl (y.block b (R.lt a).1) (λ_ _=>rfl) λi j v _ _ t=>t.tr T⟩
  .rw[Kh ω]at c;rw[Kh (by rw[R.len];omega),R.len]at a;simp only[KP,X3]at c;obtain⟨n,u,rfl⟩:=c;obtain⟨B,x⟩:=p.at_ _ n b q u a;refine⟨λ_=>by have:=r _ _ _ a;omega,x.to rfl rfl rfl rfl (λi _=>xw _ _) λi j v J F t=>?_⟩;show QC Z _ _ _ (nth (yx _ (n.row i)) j) v;rw[G3 _ _ _ F];exact t.join R.len H
def QM(P:Program)(f:FuncId)(F:List Ob)(c:List D)(R:D->List Ob->Prop):Prop:=
 ∀(Z:Nat->Prop) (a:Nat) (w:World) (k:List Pl) (j:List Value),a<=w.heap.size->(∀b,w.heap.size<=b->Z b)->Zl Z a F k w ->
  j.length=c.length->(∀i,i<c.length->QC Z F k w (nth c i) (Q7 j i)) ->
  Calls P f j.toArray w λe g=>∃v d h l,e=.returned v/\R d h/\Zl Z a h l g/\QC Z h l g d v/\Tr F k w h l g/\Below a w g
def QM.mono{P}{f}{F}{a}{R c}(h:QM P f F a R)(l:∀d h,R d h->c d h):QM P f F a c:=λZ b w g e r q p o n=>
 (h Z b w g e r q p o n).mono λ_ _ ⟨v,d,m,s,k,j,i⟩=>⟨v,d,m,s,k,l _ _ j,i⟩
def QI(P:Program)(f:FuncId)(a:List D)(R:D->List Ob->Prop):Prop:=QM P f [] a R
def QI.mono{P}{f}{a}{R b}(h:QI P f a R)(c:∀d h,R d h->b d h):QI P f a b:=QM.mono h c
def jV:List D->Nat->List (Nat × D)
 | [],_=>[]
 | d::r,i=>(i,d)::jV r (i+1)
def Qcx:∀(a:List D) (i t:Nat),get (jV a i) t=if i<=t then nth a (t - i) else .undef
 | [],i,t=>by simp[jV,get,nth]
 | d::r,i,t=>by
  simp only[jV,get];by_cases h:i=t
  .subst h;simp[nth]
  .have:Nat.beq i t=false:=by rw[<- Yq,Wo];exact h
   rw[this];simp only[jl];rw[Qcx r (i+1) t];by_cases b:i+1<=t
   .rw[Qe b,Qe ω];obtain⟨m,rfl⟩:∃m,t=i+(m+1):=⟨t - i - 1,ω⟩;rw[show i+(m+1) - (i+1)=m by omega,show i+(m+1) - i=m+1 by omega];simp[nth]
   .rw[Qd b,Qd ω]
def EY(L:Je)(s:St):List ResultVar->Option (Prop × List D)
 | []=>some (True,[])
 | .tmp t::r=>match EY L s r with
  | some (p,b)=>some (p,get s.fr t::b)
  | none=>none
 | .cell a ty::r=>match IY L s.h ty (get s.fr a),EY L s r with
  | some (q,d),some (p,b)=>some (q/\p,d::b)
  | _,_=>none
def one:List D->D
 | [d]=>d
 | a=>.tup a
def AP(L:Je)(a:List ResultVar)(R:D->List Ob->Prop):Exit->St->Prop
 | .normal,s | .ret,s=>match EY L s a with
  | some (p,b)=>p/\R (one b) s.h
  | none=>False
 | _,_=>False
def N5(a:Array Value):ResultVar->Sem Value
 | .tmp t=>pure (a.getD t Go.undef)
 | .cell x t=>do loadVar t (<- asAddr (a.getD x Go.undef))
def nW(c:Func)(a):results c a=(do let b <- c.results.mapM (N5 a);pure (if h:b.size=1 then b[0] else .tuple b)):=by
 unfold results;congr 2
def nX{P}{L}(C:Z9 P L){c J}{s}{y}{a}{w}(r:Rel Z c J s y a w):∀(g:List ResultVar) (p:Prop) (f:List D),EY L s g=some (p,f)->p ->
  ∃e:List Value,e.length=f.length/\(∀i,i<f.length->QC Z s.h y w (nth f i) (Q7 e i)) /\
   (g.mapM (N5 a.tmps)).run P w=.ok e w
 | [],p,f,h,_=>by simp[EY]at h;obtain⟨_,rfl⟩:=h;exact⟨[],rfl,λi l=>by simp at l,σ⟩
 | .tmp t::g,p,f,h,m=>by
  simp only[EY]at h;split at h
  .rename_i q I z;simp only[Q6,Ze]at h;obtain⟨rfl,rfl⟩:=h;obtain⟨e,H,F,E⟩:=nX C r g _ _ z m;refine⟨a.tmps.getD t Go.undef::e,by simp[H],λi l=>?_,by simp[List.mapM_cons,N5,E]⟩;cases i with
   | zero=>exact r.fr t
   | succ i=>have:=F i (by simpa using l);simpa[nth,Q7] using this
  .cases h
 | .cell x t::g,p,f,h,m=>by
  simp only[EY]at h;split at h
  .rename_i q d S I j z;simp only[Q6,Ze]at h;obtain⟨rfl,rfl⟩:=h;obtain⟨e,H,F,E⟩:=nX C r g _ _ z m.2;have Q := QbI (P := P) (base := c) (nt := J) (s := s) (o := ⟨none, .load t (.tmp x), 0, "", #[], none⟩) C (t := t) (x := .tmp x) rfl j m.1;obtain⟨v,k,b⟩:=Q Z y a w r;have b:=b w (λ_ _=>rfl);refine⟨v::e,by simp[H],λi l=>?_,?_⟩
   .cases i with
    | zero=>exact k
    | succ i=>have:=F i (by simpa using l);simpa[nth,Q7] using this
   .have hx:=r.fr x;have R:(N5 a.tmps (.cell x t)).run P w=.ok v w:=by
     simp only[execOp,Act.eval,Instr.loadAt,Sem.run_bind]at b;simp only[N5];have O:∃n,a.tmps.getD x Go.undef=.pointer (some n):=by
      unfold IY at j;split at j
      .cases j
      .split at j
       .rename_i B;rw[B]at hx;obtain⟨_,_,n,k,_⟩:=EP hx;exact⟨_,k⟩
       .rename_i B;rw[B]at hx;obtain⟨_,_,_,k,_⟩:=IX hx;exact⟨_,k⟩
       .cases j
     obtain⟨n,K⟩:=O;rw[K]at b ⊢;simp only[Instr.sureAddr,asAddr,Sem.run_bind,Sem.run_pure,Result.andThen_ok]at b ⊢;generalize (loadVar t n).run P w=N at *;cases N with
     | ok u M=>simp only[Result.andThen_ok]at b;cases b;rfl
     | halt x M=>simp only[Result.andThen_halt]at b;cases b
    simp[List.mapM_cons,R,E]
  .cases h
def Qn4{P:Program}{L}(U:Z9 P L){f}{j:Func}{c}(O:P.funcs[f]? = some j)(S:j.body=some c){F}{b:List D}{R}(hn:b.length<=j.ntmps)
  (h:∀(a:Nat) (w:World) (n:List Pl),a<=w.heap.size->n.length=F.length->A P a j.ntmps ⟨w,F,n⟩ c (AP L j.results.toList R) ⟨jV b 0,F⟩):QM P f F b R:=by
 intro Z a w n o Y T H hl Q;refine calls_of_wp O S ?_;have W:Rel Z a j.ntmps ⟨jV b 0,F⟩ n { tmps:=o.toArray++Array.replicate (j.ntmps - o.toArray.size) Go.undef,defers:=[] } w:=by
  refine⟨ξ,rfl,λt=>?_,H⟩;rw[Qcx];simp only[Jj,Vp,EJ];by_cases K:t<b.length
  .have:=Q t K;have e:(o.toArray++Array.replicate (j.ntmps - o.toArray.size) Go.undef).getD t Go.undef=Q7 o t:=by
    rw[yh,Nv ξ];simp[Q7,QY]
   rw[e];exact this
  .have:nth b t=.undef:=by simp[nth,QY,Gz (Nat.le_of_not_lt K)]
   rw[this];exact .cl _ _ (.undef _)
 refine wp_mono (h a w n Y H.len _ trivial n _ w W ⟨Below.refl _ _,Tr.refl _ _ _,Lo.start (w0:=⟨w,F,n⟩) H T⟩) λe I m N=>?_;obtain⟨x,r,s,y,J,E,_⟩:=N;have z:(match EY L x j.results.toList with|some (p,B)=>p/\R (one B) x.h|none=>False)->I.defers=[]/\∃v,(results j I.tmps).run P m=.ok v m /\
   ∃v1 d h r,Ending.returned v=.returned v1/\R d h/\Zl Z a h r m/\QC Z h r m d v1/\Tr F n w h r m/\Below a w m:=by
  intro k;split at k
  .rename_i p B BY;obtain⟨C,g,u,V⟩:=nX U y _ _ _ BY k.1;have q:(j.results.mapM (N5 I.tmps)).run P m=.ok C.toArray m:=by
    rw[Array.mapM_eq_mapM_toList];simp only[Sem.run_map,V,Result.andThen_ok]
   refine⟨y.defers,?_⟩;have JA:C.toArray.size=C.length:=σ;match B,C,g,u,q,k with
   | [d],[v],_,u,q,k=>
    refine⟨v,?_,v,d,x.h,r,rfl,k.2,y.o,u 0 σ,E,J⟩;rw[nW];simp only[Sem.run_bind];rw[q];simp
   | [],[],_,u,q,k=>
    refine⟨.tuple #[],?_,_,_,x.h,r,rfl,k.2,y.o,.tup [] [] rfl (λi M=>by simp at M),E,J⟩;rw[nW];simp only[Sem.run_bind];rw[q];simp
   | d::d2::B,v::v2::o,g,u,q,k=>
    refine⟨.tuple (v::v2::o).toArray,?_,_,_,x.h,r,rfl,k.2,y.o,.tup _ _ g u,E,J⟩;rw[nW];simp only[Sem.run_bind];rw[q];simp
   | [],_::_,g,_,_,_=>simp at g
   | [_],[],g,_,_,_=>simp at g
   | [_],_::_::_,g,_,_,_=>simp at g
   | _::_::_,[],g,_,_,_=>simp at g
   | _::_::_,[_],g,_,_,_=>simp at g
  .exact k.elim
 cases e with
 | normal=>exact z s
 | ret=>exact z s
 | exit id=>exact s.elim
 | goto l=>exact s.elim
 | panic ch=>exact s.elim
 | outgrown=>exact s.elim
end Go.Fg
namespace Go.Fg
open Go.RowKit (Below)
variable {Z:Nat->Prop}
def D.XO:D->Bool
 | .raw _ | .nil | .imm _ _ _ | .ip _=>true
 | _=>false
def G4{h}{a}{w}{d:D}{v}(r:QC Z h a w d v)(b:d.XO=true):Cl (free Z a) w d v:=by
 cases r with
 | cl _ _ c=>exact c
 | _=>cases b
def YK(f:D->Option (Prop × D)):List D->Option (Prop × List D)
 | []=>some (True,[])
 | d::r=>match f d,YK f r with
  | some (p,c),some (q,a)=>some (p/\q,c::a)
  | _,_=>none
def Wi(h:List Ob):Nat->D->Option (Prop × D)
 | 0,.raw v=>some (True,.raw v)
 | 0,_=>none
 | n+1,d=>match d with
  | .raw v=>some (True,.raw v)
  | .nil=>some (True,.nil)
  | .imm z n r=>some (True,.imm z n r)
  | .ip c=>some (True,.ip c)
  | .ref l g a b=>match h[l]? with
   | some o=>some (g=o.gen/\a+b<=o.n/\∀i,i<b->(o.row (a+i)).all D.XO=true,.imm o.sz b λi=>o.row (a+i))
   | none=>none
  | .ptr l g i j=>match h[l]? with
   | some o=>match YK (Wi h n) ((o.row i).drop j) with
    | some (p,k)=>some (g=o.gen/\i<o.n/\j<=o.sz/\p,.ip k)
    | none=>none
   | none=>none
  | .agg k=>match YK (Wi h n) k with
   | some (p,e)=>some (p,.agg e)
   | none=>none
  | .clo f m k=>match YK (Wi h n) k with
   | some (p,e)=>some (p,.clo f m e)
   | none=>none
  | _=>none
def Sl{f:D->Option (Prop × D)}{C:D->Value->Prop}{r:D->Value->Prop}(n:∀d v p c,r d v->f d=some (p,c)->p->C c v):∀(b:List D) (e:List Value) (p:Prop) (a:List D),e.length=b.length->(∀i,i<b.length->r (nth b i) (Q7 e i)) ->
  YK f b=some (p,a)->p->a.length=b.length/\∀i,i<b.length->C (nth a i) (Q7 e i)
 | [],e,p,a,l,j,h,k=>by simp[YK]at h;obtain⟨_,rfl⟩:=h;exact⟨rfl,λi g=>by simp at g⟩
 | d::b,[],p,a,l,j,h,k=>by simp at l
 | d::b,v::e,p,a,l,j,h,k=>by
  simp only[YK]at h;split at h
  .rename_i o c q m w u;simp only[Q6,Ze]at h;obtain⟨rfl,rfl⟩:=h;obtain⟨t,s⟩:=Sl n b e q m (by simpa using l) (λi g=>by have:=j (i+1) (by simpa using g);simpa[nth,Q7] using this) u k.2;refine⟨by simp[t],λi g=>?_⟩;cases i with
   | zero=>exact n d v o c (j 0 σ) w k.1
   | succ i=>have:=s i (by simpa using g);simpa[nth,Q7] using this
  .cases h
def dc{N}{a0}{h}{F:List Pl}{w}(R:Zl Z a0 h F w)(de:∀b,free Z F b->N b)(V:∀l b q:Nat,F[l]? = some (some (b,q))->N b):∀(n:Nat) (d:D) (v:Value) (p:Prop) (c:D),QC Z h F w d v->Wi h n d=some (p,c)->p->Cl N w c v
 | 0,d,v,p,c,r,e,x=>by
  cases d<;>simp only[Wi,reduceCtorEq,Q6,Ze]at e;obtain⟨_,rfl⟩:=e;rw[Jt r];exact .raw _
 | n+1,d,v,p,c,r,e,x=>by
  have y:∀{d:D} {v:Value},Cl (free Z F) w d v->Cl N w d v:=λh=>h.mono λb hb _=>⟨de b hb,rfl⟩;cases d with
  | raw u=>simp only[Wi,Q6,Ze]at e;obtain⟨_,rfl⟩:=e;exact y (G4 r rfl)
  | nil=>simp only[Wi,Q6,Ze]at e;obtain⟨_,rfl⟩:=e;exact y (G4 r rfl)
  | imm z k a1=>simp only[Wi,Q6,Ze]at e;obtain⟨_,rfl⟩:=e;exact y (G4 r rfl)
  | ip J=>simp only[Wi,Q6,Ze]at e;obtain⟨_,rfl⟩:=e;exact y (G4 r rfl)
  | undef=>simp[Wi]at e
  | tup J=>simp[Wi]at e
  | ref l g B K=>
   simp only[Wi]at e;split at e
   .rename_i o P;simp only[Q6,Ze]at e;obtain⟨rfl,rfl⟩:=e;obtain⟨hg,hn,Kr⟩:=x;obtain⟨a,a2,t,S⟩:=nh R r (p:=g=o.gen/\B+K<=o.n) (n:=K) (sz:=o.sz) (rows:=λk=>o.row (B+k)) (by simp[R5,P]) ⟨hg,hn⟩;have Dm:∀i j,i<K->j<o.sz->(nth (o.row (B+i)) j).XO=true:=λi j m I=>by
     have h1:=Kr i m;rw[zC]at h1;have h2:j<(o.row (B+i)).length:=by rw[S.len i m];exact I
     refine h1 _ ?_;simp only[nth,QY,QG h2,Ky];exact X0 h2
    obtain⟨o',p',ad,wm,hv,U,Z2,ZK,kN,Vq⟩:=EO r;rw[P]at U;cases U;have N6:=S.v;rw[hv]at N6;simp only[Value.slice.injEq,yl]at N6;obtain⟨rfl,rfl⟩:=N6;rw[hv];rcases Vq hg with ⟨h1,h2⟩|⟨b,q,c,el,Wz,wk,hb,hc,Q⟩
    .subst h1;exact .imm _ _ _ _ _ 0 0 (λ_ _=>Go.undef) (λh=>ω) ω (λi m=>ω) (λi j m=>ω) (λi j m=>ω)
    .refine .imm _ _ _ _ _ b (q+B*o.sz) t (λ_=>wk) Q S.len (λi j m I=>⟨V l b q (by rw[Z2,Wz]),?_⟩) (λi j m I=>?_)
     .obtain⟨b1,q1,hh,GR⟩:=S.cell i j m I;rw[wk]at hh;simp only[Q6,Addr.mk.injEq,and_true]at hh;obtain⟨rfl,rfl⟩:=hh;exact GR
     .exact y (G4 (S.rel i j m I) (Dm i j m I))
   .cases e
  | mref l g=>simp[Wi]at e
  | ptr l g i j=>
   simp only[Wi]at e;split at e
   .rename_i o P;split at e
    .rename_i q J W;simp only[Q6,Ze]at e;obtain⟨rfl,rfl⟩:=e;obtain⟨hg,m,I,hq⟩:=x;obtain⟨o',p',ad,hv,U,Z2,ZK,kN,Vq⟩:=EP r;rw[P]at U;cases U;obtain⟨b,M,rfl,rfl⟩:=Vq hg;obtain⟨Q5,xx⟩:=R.at_ l o b M P Z2;obtain⟨c,el,hb,La,JS,ZU⟩:=xx.cells ZK;have E:((o.row i).drop j).length=o.sz - j:=by rw[aZ,JS i m]
     let t:List Value:=(List.range (o.sz - j)).map λk=>(c[M+(i*o.sz+(j+k))]?).getD Go.undef;have Y:∀k,k<o.sz - j->Q7 t k=(c[M+(i*o.sz+(j+k))]?).getD Go.undef:=λk H=>by simp[t,Q7,QY,H]
     obtain⟨k1,O⟩:=Sl (r:=λd v=>QC Z h F w d v) (C:=λd v=>Cl N w d v) (λd v p c s T x=>dc R de V n d v p c s T x) _ t q J (by simp[t,E]) (λk H=>by
      rw[E]at H;obtain⟨u,hu,s⟩:=ZU i (j+k) m ω;rw[GJ,Y k H,hu];exact s) W hq
     rw[hv];rw[E]at k1 O;refine .ip _ b _ (λk=>Q7 t k) (λk H=>⟨V l b M Z2,?_⟩) (λk H=>O k ω);rw[k1]at H;obtain⟨u,hu,s⟩:=ZU i (j+k) m ω;rw[cell_of_row w b _ c el (0,0) hb,Y k H,hu,Ky,show M+(i*o.sz+j)+k=M+(i*o.sz+(j+k)) by omega,hu]
    .cases e
   .cases e
  | agg J=>
   simp only[Wi]at e;split at e
   .rename_i q L W;simp only[Q6,Ze]at e;obtain⟨rfl,rfl⟩:=e;obtain⟨t,rfl,Q,s⟩:=IW r;obtain⟨k1,O⟩:=Sl (r:=λd v=>QC Z h F w d v) (C:=λd v=>Cl N w d v) (λd v p c s T x=>dc R de V n d v p c s T x) J t _ L Q s W x;exact .agg _ _ ω (λi m=>O i ω)
   .cases e
  | clo f nf J=>
   simp only[Wi]at e;split at e
   .rename_i q L W;simp only[Q6,Ze]at e;obtain⟨rfl,rfl⟩:=e;obtain⟨t,rfl,Q,s⟩:=mR r;obtain⟨k1,O⟩:=Sl (r:=λd v=>QC Z h F w d v) (C:=λd v=>Cl N w d v) (λd v p c s T x=>dc R de V n d v p c s T x) J t _ L Q s W x;exact .clo _ _ _ _ ω (λi m=>O i ω)
   .cases e
def Qn6{a}{h}{b}{w}(R:Zl Z a h b w)(n)(d)(v)(p:Prop)(c)(r:QC Z h b w d v)(e:Wi h n d=some (p,c))(f:p):Cl (λ_=>True) w c v:=
 dc R (λ_ _=>trivial) (λ_ _ _ _=>trivial) n d v p c r e f
mutual
def D.flat:D->Bool
 | .raw _ | .nil | .ref _ _ _ _ | .ptr _ _ _ _ | .mref _ _=>true
 | .agg a=>G5 a
 | .tup a=>G5 a
 | .clo _ _ a=>G5 a
 | _=>false
def G5:List D->Bool
 | []=>true
 | d::r=>d.flat&&G5 r
end
def G6:∀{b:List D},G5 b=true->∀i,i<b.length->(nth b i).flat=true
 | [],_,i,h=>by simp at h
 | d::r,a,i,h=>by
  simp only[G5,ZL]at a;cases i with
  | zero=>exact a.1
  | succ i=>have:=G6 a.2 i (by simpa using h);simpa[nth] using this
def QC.df{Z'}{h}{B}{w}{d:D}{v}(r:QC Z h B w d v)(e:d.flat=true):QC Z' h B w d v:=by
 induction r with
 | cl d v E=>
  have:∀{d:D} {v:Value},Cl (free Z B) w d v->d.flat=true->QC Z' h B w d v:=by
   intro d v E;induction E with
   | raw v=>exact λ_=>.cl _ _ (.raw v)
   | undef v=>intro e;simp[D.flat]at e
   | nil a=>exact λ_=>.cl _ _ (.nil a)
   | imm=>intro e;simp[D.flat]at e
   | ip=>intro e;simp[D.flat]at e
   | clo f C q k n t m=>exact λe=>.clo f C q k n λi c=>m i c (G6 (by simpa[D.flat] using e) i c)
   | agg q k n t m=>exact λe=>.agg q k n λi c=>m i c (G6 (by simpa[D.flat] using e) i c)
   | tup q k n t m=>exact λe=>.tup q k n λi c=>m i c (G6 (by simpa[D.flat] using e) i c)
  exact this E e
 | ref l g F H o p a I x u y z s=>exact .ref l g F H o p a I x u y z s
 | ptr l g i j o p a x u y z s=>exact .ptr l g i j o p a x u y z s
 | mref l g o p b x u y z s=>exact .mref l g o p b x u y z s
 | clo f C q k n t m=>exact .clo f C q k n λi c=>m i c (G6 (by simpa[D.flat] using e) i c)
 | agg q k n t m=>exact .agg q k n λi c=>m i c (G6 (by simpa[D.flat] using e) i c)
 | tup q k n t m=>exact .tup q k n λi c=>m i c (G6 (by simpa[D.flat] using e) i c)
def Ob.flat(o:Ob):Prop:=∀i,i<o.n->G5 (o.row i)=true
def Zl.df{Z'}{a}{h}{c}{w}(R:Zl Z a h c w)(m:∀o∈h,o.flat):Zl Z' a h c w where
 len:=R.len
 inj:=R.inj
 V0:=R.V0
 at_:=λl o b q d f=>by
  obtain⟨n,x⟩:=R.at_ l o b q d f;exact⟨n,x.to rfl rfl rfl rfl (λ_ _=>rfl) λi j v k g e=>e.df (G6 (m o (NA d) i k) j g)⟩
def Qn(P:Program)(f:FuncId):Prop:=∀(a:Array Value) (w:World),(callFunc f a).run P w=.ok (.enter f a) w
def JF:D->Option (FuncId × Nat × List D)
 | .raw (.func (.func f) ⟨[]⟩ ⟨[]⟩)=>some (f,0,[])
 | .clo f a b=>some (f,a,b)
 | _=>none
section
variable {P:Program}{base nt:Nat}{w0:Start}{Q:Exit->St->Prop}
def Sn{h}{g}{w}{d}{v}{f}{c}{b}(r:QC Z h g w d v)(e:JF d=some (f,c,b)):
  ∃a:List Value,v=.func (.func f) (a.take c).toArray (a.drop c).toArray/\a.length=b.length/\∀i,i<b.length->QC Z h g w (nth b i) (Q7 a i):=by
 unfold JF at e;split at e
 .simp only[Q6,Ze]at e;obtain⟨rfl,rfl,rfl⟩:=e;exact⟨[],Jt r,rfl,λi j=>by simp at j⟩
 .simp only[Q6,Ze]at e;obtain⟨rfl,rfl,rfl⟩:=e;exact mR r
 .cases e
def Z6{b:Type}(c:Nat)(d a:List b):List b:=d.take c++(a++d.drop c)
def Sq{r:D->Value->Prop}{nf:Nat}{a args:List D}{b us:List Value}(g:b.length=a.length)(f:∀i,i<a.length->r (nth a i) (Q7 b i))(e:us.length=args.length)(h:∀i,i<args.length->r (nth args i) (Q7 us i)):
  (Z6 nf b us).length=(Z6 nf a args).length/\∀i,i<(Z6 nf a args).length->r (nth (Z6 nf a args) i) (Q7 (Z6 nf b us) i):=by
 refine⟨by simp[Z6,g,e],λi k=>?_⟩;have j:(b.take nf).length=(a.take nf).length:=by simp[g]
 simp only[Z6,nth,Q7,QY];by_cases d:i<(a.take nf).length
 .rw[JO (l₁:=a.take nf) d,JO (l₁:=b.take nf) ω];have c:i<nf/\i<a.length:=by simp at d;omega
  rw[XK,XK,Qe c.1,Qe c.1];exact f i c.2
 .rw[Kh (l₁:=a.take nf) ω,Kh (l₁:=b.take nf) ω,j];by_cases c:i - (a.take nf).length<args.length
  .rw[JO (l₁:=args) c,JO (l₁:=us) ω];exact h _ c
  .rw[Kh (l₁:=args) ω,Kh (l₁:=us) ω,e];rw[Gy,Gy];refine f _ ?_;simp only[Z6,Zo,be,aZ]at k d c ⊢;omega
def Sr{o:Oper}{a:Act}{x}{b}{j:Array TypeId}{f}{d:Nat}{c:List Value}(i:Qn P f)(h:o.op=.call ⟨.value x,b,j⟩)(g:a.eval x=.func (.func f) (c.take d).toArray (c.drop d).toArray)(w):
  (execOp a.eval o).run P w=.ok (.enter f (Z6 d c (b.toList.map a.eval)).toArray) w:=by
 have e:(Z6 d c (b.toList.map a.eval)).toArray=(c.take d).toArray++b.map a.eval++(c.drop d).toArray:=by apply Array.ext';simp[Z6]
 rw[e];simp[execOp,h,resolve,g,Deferred.ofValue,invoke,i _ w]
def Qcz(Q5:base<=w0.w.heap.size){o:Oper}{s}{x}{g}{Zq:Array TypeId}{f}{u}{V}(hf:Qn P f)(ho:o.op=.call ⟨.value x,g,Zq⟩)
  (hx:JF (Qq s.fr x)=some (f,u,V)) {n:Nat} {p:Prop} {H:List D} (JM:YK (Wi s.h n) (Z6 u V (g.toList.map (Qq s.fr)))=some (p,H)) (B:p) {R:D->List Ob->Prop} (hF:QI P f H R)
  (Lp:∀d h,R d h->d.flat=true/\∀o∈h,o.flat) (O:Zn nt o.dst=true) (k:List Pl) (a:Act) (w:World) (r:Rel Z base nt s k a w) (b:Vg Z base w0 s.h k w) (Q':Exit->Act->World->Prop) :
  o.wp P a w (λU m=>Ext w m/\∃d h j,R d h/\Rel Z base nt ⟨Zg s.fr o.dst (d.shift s.h.length),s.h++h.map (Ob.shift s.h.length)⟩ j U m/\Vg Z base w0 (s.h++h.map (Ob.shift s.h.length)) j m/\Tr s.h k w (s.h++h.map (Ob.shift s.h.length)) j m/\∃v,U=a.put o.dst v) Q':=by
 obtain⟨M,hv,wx,EZ⟩:=Sn (r.eval x) hx;have L:base<=w.heap.size:=Kv Q5 b.1.size;obtain⟨q1,q2⟩:=Sq (r:=λd v=>QC Z s.h k w d v) (nf:=u) wx EZ (us:=g.toList.map a.eval) (args:=g.toList.map (Qq s.fr)) σ (λi y=>by
  have JB:i<g.toList.length:=by simpa using y
  simp only[nth,Q7,QY,KP];rw[QG JB];exact r.eval _)
 obtain⟨k1,k2⟩:=Sl (r:=λd v=>QC Z s.h k w d v) (C:=λd v=>Cl (λ_=>True) w d v) (λd v p c hr E B=>Qn6 r.o n d v p c hr E B) _ (Z6 u M (g.toList.map a.eval)) p H q1 q2 JM B;have hc:=hF (λ_=>True) w.heap.size w [] (Z6 u M (g.toList.map a.eval)) (QB _) (λ_ _=>trivial) ⟨rfl,λl l' b q q' e=>by simp at e,λl o e=>by simp at e,λl o b q e=>by simp at e⟩ ω (λi y=>.cl _ _ ((k2 i ω).mono λb _ _=>⟨⟨trivial,λl q e=>by simp at e⟩,rfl⟩));unfold Oper.wp;rw[Sr hf ho hv w];simp only[Oper.upon_enter];refine hc.mono λe m E=>?_;obtain⟨v,d,F,j,rfl,S,hO,hV,J,z⟩:=E;obtain⟨f1,f2⟩:=Lp d F S;have K:=hO.df (Z':=λ_=>False) f2;have I:=hV.df (Z':=λ_=>False) f1;have N:∀b,free (λ_=>False) j b->free Z (k++j) b:=λb hb=>hb.1.elim;have W:∀(l b q:Nat),j[l]? = some (some (b,q))->w.heap.size<=b:=λl b q e=>by
  rcases xn b w.heap.size with Qc|Xd
  .exact absurd e ((J.Ko b (λl q e=>by simp at e) Qc).1 l q)
  .exact Xd
 have T:=Tr.join (h':=F.map (Ob.shift s.h.length)) r.o z W;have Y:=Zl.join r.o L z K N W;refine⟨λi y=>z.block i y,d,F,k++j,S,?_,b.step T (z.mono L),T,v,rfl⟩;cases hd:o.dst with
 | none=>exact r.Av T Y v
 | some t=>rw[hd]at O;exact r.to T Y (kZ O) (I.join r.o.len N)
def Qoa(K:base<=w0.w.heap.size){o:Oper}{c}{s}{x}{e}{I:Array TypeId}{f}{g}{j}(B:Qn P f)(v:o.op=.call ⟨.value x,e,I⟩)
  (q:JF (Qq s.fr x)=some (f,g,j)) {n:Nat} {p:Prop} {i:List D} (M:YK (Wi s.h n) (Z6 g j (e.toList.map (Qq s.fr)))=some (p,i)) (u:p) {R:D->List Ob->Prop} (E:QI P f i R)
  (L:∀d h,R d h->d.flat=true/\∀o∈h,o.flat) (t:Zn nt o.dst=true) (y:∀d h,R d h->AG P base nt w0 c Q ⟨Zg s.fr o.dst (d.shift s.h.length),s.h++h.map (Ob.shift s.h.length)⟩):AG P base nt w0 ((o,none)::c) Q s:=by
 intro Z z m a w r b;simp only[qk,XA,Vp];exact Oper.wp_mono (λH k ⟨_,d,h,J,C,l,F,_⟩=>y d h C Z z J H k l F) (Qcz K B v q M u E L t m a w r b _)
def Dw(m:Nat)(h:List Ob)(c:List Pl)(e:List Ob)(d:List Pl):Prop:=
 (∀b,Xy c b->Xy d b)/\∀(l:Nat) (o:Ob) (p:Pl),l<m->h[l]? = some o->c[l]? = some p->∃a,e[l]? = some a/\d[l]? = some p/\a.gen=o.gen/\a.sz=o.sz/\a.kd.ty=o.kd.ty
def Dw.refl(m)(h)(a):Dw m h a h a:=⟨λ_ h=>h,λ_ o p _ c b=>⟨o,c,b,rfl,rfl,rfl⟩⟩
def Dw.trans{m}{h h' c}{d f g}(a:Dw m h d h' f)(b:Dw m h' f c g):Dw m h d c g:=
 ⟨λx hx=>b.1 x (a.1 x hx),λl o p e u t=>by
  obtain⟨j,B,z,y,w,v⟩:=a.2 l o p e u t;obtain⟨i,s,r,q,n,k⟩:=b.2 l j p e B z;exact⟨i,s,r,by rw[q,y],by rw[n,w],by rw[k,v]⟩⟩
def Tr.keep{F h H:List Ob}{d s I}{w0 w}{m}(T:Tr F d w0 h s w)(B:F.length<=m)(K:Dw m h s H I):Tr F d w0 H I w where
 Ko:=λb k Qc=>⟨K.1 b (T.Ko b k Qc).1,(T.Ko b k Qc).2⟩
 obj:=λl o p a j=>by
  obtain⟨g,f,n,r,L,E,C⟩:=T.obj l o p a j;obtain⟨t,i,z,J,v,u⟩:=K.2 l g f (wg (KA a) B) n r;exact⟨t,f,i,z,ω,by rw[u,E],λe=>by obtain⟨x,y⟩:=C ω;exact⟨by rw[v,x],y⟩⟩
 shape:=λl o O b q a M N j c el k=>by
  obtain⟨g,f,n,r,L,E,C⟩:=T.obj l o _ a j;obtain⟨t,i,z,J,v,u⟩:=K.2 l g f (wg (KA a) B) n r;rw[M]at i;cases i;exact T.shape l o g b q a n ω j c el k
def Wk(m:Nat)(s b:St):Prop:=∀(Z:Nat->Prop) (base nt:Nat) c a w,Rel Z base nt s c a w->∃d,Rel Z base nt b d a w/\Dw m s.h c b.h d
def Wk.refl{m}(s):Wk m s s:=λ_ _ _ a _ _ r=>⟨a,r,.refl _ _ _⟩
def Wk.trans{m}{s d e}(h:Wk m s d)(k:Wk m d e):Wk m s e:=λZ b n g a w r=>
 let ⟨i,f,K⟩:=h Z b n g a w r;let ⟨l,c,j⟩:=k Z b n i a w f
 ⟨l,c,K.trans j⟩
def Vg.keep{h f}{a g}{w}(b:Vg Z base w0 h a w)(K:Dw w0.F.length h a f g):Vg Z base w0 f g w:=⟨b.1,b.2.1.keep (QB _) K,b.2.2.new,λl c q e n=>by
 by_cases d:Xy a c
 .exact absurd e (K.1 c d l q)
 .obtain⟨j,m⟩:=Nw.1 d;obtain⟨i,k⟩:=Nw.1 m;exact b.2.2.own j c i (Classical.not_not.1 k) n⟩
def Qr(w0:Start)(s b:St):Prop:=∀(Z:Nat->Prop),Sg w0 Z->∀(base nt:Nat) c a w,Rel Z base nt s c a w->Vg Z base w0 s.h c w->∃d,Rel Z base nt b d a w/\Vg Z base w0 b.h d w
def Wk.up{s c}(h:Wk w0.F.length s c):Qr w0 s c:=λZ _ base nt e a w r b=>let ⟨f,d,K⟩:=h Z base nt e a w r;⟨f,d,b.keep K⟩
def Qr.refl(s):Qr w0 s s:=λ_ _ _ _ a _ _ r b=>⟨a,r,b⟩
def Qr.trans{s c e}(h:Qr w0 s c)(k:Qr w0 c e):Qr w0 s e:=λZ z d n g a w r b=>
 let ⟨j,f,i⟩:=h Z z d n g a w r b
 k Z z d n j a w f i
def A.YL{c}{s d}(h:Qr w0 s d)(k:A P base nt w0 c Q d):A P base nt w0 c Q s:=λZ z f a w r b=>let ⟨i,e,g⟩:=h Z z base nt f a w r b;k Z z i a w e g
def AG.YL{l}{s c}(h:Qr w0 s c)(k:AG P base nt w0 l Q c):AG P base nt w0 l Q s:=λZ z e a w r b=>let ⟨g,d,f⟩:=h Z z base nt e a w r b;k Z z g a w d f
def E0{c}{k}{s a}(h:Qr w0 s a)(b:Qw P base nt w0 Q (.code c::k) .normal a):Qw P base nt w0 Q (.code c::k) .normal s:=by
 simp only[Qw]at b ⊢;exact b.YL h
def G7(a:List (Nat × D)):List (Nat × D)->Prop
 | []=>True
 | (t,d)::r=>get a t=d/\G7 a r
def QcB{a}:∀{r:List (Nat × D)},G7 a r->∀t d,(t,d)∈r->get a t=d
 | [],_,_,_,h=>by cases h
 | (u,e)::r,h,t,d,b=>by
  rcases QF.1 b with h1|h1
  .cases h1;exact h.1
  .exact QcB h.2 t d h1
def QcC(b)(u):get b u=.undef\/(u,get b u)∈b:=by
 induction b with
 | nil=>exact .inl rfl
 | cons x r a=>
  obtain⟨t,d⟩:=x;simp only[get];by_cases h:t=u
  .subst h;simp
  .have:Nat.beq t u=false:=by rw[<- Yq,Wo];exact h
   rw[this];rcases a with a|a
   .exact .inl (by simpa using a)
   .exact .inr (by simp[a])
def Wk.frame{m}{c fr'}{h}(d:G7 c fr'):Wk m ⟨c,h⟩ ⟨fr',h⟩:=λZ base nt b a w r=>
 ⟨b,⟨r.nt,r.defers,λt=>by
  rcases QcC fr' t with h1|h1
  .show QC Z h b w (get fr' t) _;rw[h1];exact .cl _ _ (.undef _)
  .have:=QcB d _ _ h1;show QC Z h b w (get fr' t) _;rw[<- this];exact r.fr t,r.o⟩,.refl _ _ _⟩
def Kd.Lr(k a:Kd):Prop:=k.ty=a.ty/\k.ro=a.ro
def N7(o a:Ob):Prop:=a.gen=o.gen/\a.sz=o.sz/\a.n=o.n/\a.kd.Lr o.kd/\∀i,i<o.n->a.row i=o.row i
def BZ:List Ob->List Ob->Prop
 | [],[]=>True
 | o::r,b::a=>N7 o b/\BZ r a
 | _,_=>False
def dh:∀{h b:List Ob},BZ h b->b.length=h.length/\∀(l:Nat) (a:Ob),b[l]? = some a->∃o,h[l]? = some o/\N7 o a
 | [],[],_=>⟨rfl,λl a e=>by simp at e⟩
 | [],_::_,h=>h.elim
 | _::_,[],h=>h.elim
 | o::r,a::i,h=>by
  obtain⟨g,f⟩:=dh h.2;refine⟨by simp[g],λl u e=>?_⟩;cases l with
  | zero=>simp at e;subst e;exact⟨o,rfl,h.1⟩
  | succ l=>simp at e;obtain⟨v,d,c⟩:=f l u e;exact⟨v,by simpa using d,c⟩
def QC.G8{h E}{J}{w}(n:BZ h E){d}{v}(r:QC Z h J w d v):QC Z E J w d v:=by
 obtain⟨O,N⟩:=dh n;have q:∀(l:Nat) (o:Ob),h[l]? = some o->∃k,E[l]? = some k/\N7 o k:=λl o e=>by
  have:l<E.length:=by rw[O];exact KA e
  obtain⟨R,m,c⟩:=N l _ (QG this);rw[e]at m;cases m;exact⟨_,QG this,c⟩
 induction r with
 | cl d v M=>exact .cl d v M
 | ref l g F H o p a I y x z B u=>
  obtain⟨k,m,c⟩:=q l o y;exact .ref l g F H k p a I m x (by rw[c.2.2.2.1.1];exact z) (by rw[c.1];exact B) (λe=>by rw[c.2.1];exact u (by rw[e,c.1]))
 | ptr l g i j o p a y x z B u=>
  obtain⟨k,m,c⟩:=q l o y;exact .ptr l g i j k p a m x (by rw[c.2.2.2.1.1];exact z) (by rw[c.1];exact B) (λe=>by rw[c.2.1];exact u (by rw[e,c.1]))
 | mref l g o p b y x z B u=>
  obtain⟨k,m,c⟩:=q l o y;exact .mref l g k p b m x (by rw[c.2.2.2.1.1];exact z) (by rw[c.1];exact B) (λe=>u (by rw[e,c.1]))
 | clo f L C s n K t=>exact .clo f L C s n t
 | agg C s n K t=>exact .agg C s n t
 | tup C s n K t=>exact .tup C s n t
def Wk.G8{m}{fr}{h y}(n:BZ h y):Wk m ⟨fr,h⟩ ⟨fr,y⟩:=λZ base nt E a w r=>by
 obtain⟨C,u⟩:=dh n;refine⟨E,⟨r.nt,r.defers,λt=>(r.fr t).G8 n,⟨by rw[C];exact r.o.len,r.o.inj,λl g c f=>?_,λl g b q c f=>?_⟩⟩,λ_ h=>h,λl o p _ c f=>?_⟩
 .obtain⟨o,e,d⟩:=u l g c;rw[d.2.2.1];exact r.o.V0 l o e f
 .obtain⟨o,e,d,H,F,z,B⟩:=u l g c;obtain⟨I,x⟩:=r.o.at_ l o b q e f;exact⟨λk=>I (by rw[<- z.2,k]),x.to z.1 H F rfl (λi s=>by rw[B i s]) λi j v s _ k=>by rw[B i s];exact k.G8 n⟩
 .have Qc:l<y.length:=by rw[C];exact KA c
  obtain⟨J,e,d⟩:=u l _ (QG Qc);have c:h[l]? = some o:=c;rw[c]at e;cases e;exact⟨_,QG Qc,f,d.1,d.2.1,d.2.2.2.1.1⟩
mutual
def D.upto(k:Nat):D->Bool
 | .ref l _ _ _=>Nat.blt l k
 | .ptr l _ _ _=>Nat.blt l k
 | .mref l _=>Nat.blt l k
 | .clo _ _ a=>xy k a
 | .agg a=>xy k a
 | .tup a=>xy k a
 | _=>true
def xy(k:Nat):List D->Bool
 | []=>true
 | d::r=>d.upto k&&xy k r
end
def N8{k}:∀{b:List D},xy k b=true->∀i,i<b.length->(nth b i).upto k=true
 | [],_,i,h=>by simp at h
 | d::r,a,i,h=>by
  simp only[xy,ZL]at a;cases i with
  | zero=>exact a.1
  | succ i=>have:=N8 a.2 i (by simpa using h);simpa[nth] using this
def QC.take{h:List Ob}{E:List Pl}{w}{k}{d:D}{v}(r:QC Z h E w d v)(m:d.upto k=true):QC Z (h.take k) (E.take k) w d v:=by
 have L:∀b,free Z E b->free Z (E.take k) b:=λb F=>⟨F.1,λl q e=>by
  rw[XK]at e;split at e
  .exact F.2 l q e
  .cases e⟩
 induction r with
 | cl d v N=>exact .cl d v (N.mono λb F _=>⟨L b F,rfl⟩)
 | ref l g H I o p a J x u y B t=>
  have:l<k:=by simpa[D.upto,xm] using m
  exact .ref l g H I o p a J (by rw[XK,Qe this];exact x) (by rw[XK,Qe this];exact u) y B t
 | ptr l g i j o p a x u y B t=>
  have:l<k:=by simpa[D.upto,xm] using m
  exact .ptr l g i j o p a (by rw[XK,Qe this];exact x) (by rw[XK,Qe this];exact u) y B t
 | mref l g o p b x u y B t=>
  have:l<k:=by simpa[D.upto,xm] using m
  exact .mref l g o p b (by rw[XK,Qe this];exact x) (by rw[XK,Qe this];exact u) y B t
 | clo f M C n z K s=>exact .clo f M C n z λi c=>s i c (N8 (by simpa[D.upto] using m) i c)
 | agg C n z K s=>exact .agg C n z λi c=>s i c (N8 (by simpa[D.upto] using m) i c)
 | tup C n z K s=>exact .tup C n z λi c=>s i c (N8 (by simpa[D.upto] using m) i c)
def G9(k:Nat):List (Nat × D)->Bool
 | []=>true
 | (_,d)::r=>d.upto k&&G9 k r
def QcD{k}:∀{a:List (Nat × D)},G9 k a=true->∀t,(get a t).upto k=true
 | [],_,t=>rfl
 | (u,d)::r,h,t=>by
  simp only[G9,ZL]at h;simp only[get];cases Nat.beq u t
  .exact QcD h.2 t
  .exact h.1
def B0(k:Nat):List Ob->Prop
 | []=>True
 | o::r=>(∀i,i<o.n->xy k (o.row i)=true)/\B0 k r
def nY{k}:∀{h:List Ob},B0 k h->∀(l:Nat) (o:Ob),h[l]? = some o->∀i,i<o.n->xy k (o.row i)=true
 | [],_,l,o,e=>by simp at e
 | o::r,h,l,u,e=>by
  cases l with
  | zero=>simp at e;subst e;exact h.1
  | succ l=>simp at e;exact nY h.2 l u e
def Wk.drop{m}(k)(J:m<=k){fr}{h:List Ob}(E:G9 k fr=true)(C:B0 k (h.take k)):Wk m ⟨fr,h⟩ ⟨fr,h.take k⟩:=λZ base nt pl a w r=>by
 have f:∀(l:Nat) (p:Pl),(pl.take k)[l]? = some p->pl[l]? = some p:=λl p e=>by
  rw[XK]at e;split at e
  .exact e
  .cases e
 have g:∀(l:Nat) (o:Ob),(h.take k)[l]? = some o->h[l]? = some o:=λl o e=>by
  rw[XK]at e;split at e
  .exact e
  .cases e
 refine⟨pl.take k,⟨r.nt,r.defers,λt=>(r.fr t).take (QcD E t),⟨by simp[r.o.len],λl s b q n I H=>r.o.inj l s b q n (f _ _ I) (f _ _ H),λl o c d=>r.o.V0 l o (g _ _ c) (f _ _ d),λl o b q c d=>?_⟩⟩,
  λb B l q e=>B l q (f _ _ e),λl o p K c d=>⟨o,by show (h.take k)[l]? = _;rw[XK,Qe ω];exact c,by rw[XK,Qe ω];exact d,rfl,rfl,rfl⟩⟩
 obtain⟨F,x⟩:=r.o.at_ l o b q (g _ _ c) (f _ _ d);exact⟨F,x.to rfl rfl rfl rfl (λ_ _=>rfl) λi j v z y u=>u.take (N8 (nY C l o c i z) j y)⟩
def Wk.kP{m}{f}{h:List Ob}(t g)(c)(k:get f t=.nil):Wk m ⟨f,h⟩ ⟨put f t (.ref h.length 0 0 0),h++[⟨.arr,0,g,0,c⟩]⟩:=λZ base nt d a w r=>by
 have T:Tr h d w (h++[⟨.arr,0,g,0,c⟩]) (d++[none]) w:=Tr.push r.o (λ_ _=>rfl) _ _ (by intro b q e;cases e);refine⟨d++[none],⟨r.nt,r.defers,λu=>?_,r.o.kP _ rfl⟩,λb v=>RW v (λq e=>by cases e),λl o p _ s n=>⟨o,BJ s,BJ n,rfl,rfl,rfl⟩⟩;show QC Z _ _ w (get (put f t (.ref h.length 0 0 0)) u) _;rw[EM];by_cases i:u=t
 .subst i;rw[Qe rfl];have:=r.fr u;have this:QC Z h d w (get f u) (a.tmps.getD u Go.undef):=this;rw[k]at this;obtain⟨x,j⟩:=Ax this;rw[j];have y:d.length=h.length:=r.o.len;exact .ref _ _ _ _ ⟨.arr,0,g,0,c⟩ none x 0 σ (by rw[<- y];simp) rfl (QB _) (λ_=>.inl ⟨rfl,rfl⟩)
 .rw[Qd i];exact(r.fr u).tr T
def dt(P:Program)(base nt:Nat)(w0:Start)(Q:Exit->St->Prop)(k:List Item)(I:Nat->St->Prop)(m:Nat):Exit->St->Prop
 | .normal,s=>∃b a,b<m/\Qr w0 s a/\I b a
 | e,s=>Qw P base nt w0 Q k e s
def Qoc{p:Nat->Prop}:∀n,p n->∃m,p m/\∀k,p k->m<=k:=by
 intro n;induction n using Nat.strongRecOn with
 | _ n b=>
  intro d;by_cases h:∃k,k<n/\p k
  .obtain⟨k,a,c⟩:=h;exact b k a c
  .exact⟨n,d,λk a=>Nat.le_of_not_lt λQc=>h ⟨k,Qc,a⟩⟩
def dw{p:Nat->Prop}(h:∃n,p n):∃m,p m/\∀k,p k->m<=k:=let ⟨n,a⟩:=h;Qoc n a
open Classical in
def Ls{c}{k}{s s0}(I)(K)(R:Qr w0 s s0)(V:I K s0)(d:∀m s,I m s->Qw P base nt w0 (dt P base nt w0 Q k I m) [.code c] .normal s):Qw P base nt w0 Q (.code (.loop c)::k) .normal s:=by
 simp only[Qw];refine A.YL R ?_;intro Z z u a w r b;let J:Nat->Act->World->Prop:=λm a w=>∃s u,I m s/\Rel Z base nt s u a w/\Vg Z base w0 s.h u w;let o:Act->World->Nat:=λa w=>if h:∃m,J m a w then Classical.choose (dw h) else 0;refine wp_loop (λa w=>∃m,J m a w) o ⟨K,s0,u,V,r,b⟩ λa w y=>?_;have S:=(Classical.choose_spec (dw y)).1;have E:o a w=Classical.choose (dw y):=by simp only[o];rw[dif_pos y]
 obtain⟨M,C,U,O,Y⟩:=S;have:=d _ M U;simp only[Qw]at this;refine wp_mono (this Z z C a w O Y) λe x t T=>?_;obtain⟨q,n,i,f,j⟩:=T;cases e with
 | normal=>
  obtain⟨g,L,Qc,F,H⟩:=i;obtain⟨B,N,W⟩:=F Z z base nt n x t f j;have v:J g x t:=⟨L,B,H,N,W⟩;refine⟨⟨g,v⟩,?_⟩;rw[E];have:o x t<=g:=by simp only[o];rw[dif_pos ⟨g,v⟩];exact(Classical.choose_spec (dw (p:=λm=>J m x t) ⟨g,v⟩)).2 g v
  omega
 | exit id=>exact⟨q,n,i,f,j⟩
 | goto l=>exact⟨q,n,i,f,j⟩
 | ret=>exact⟨q,n,i,f,j⟩
 | panic ch=>exact⟨q,n,i,f,j⟩
 | outgrown=>exact⟨q,n,i,f,j⟩
end
end Go.Fg
namespace Go.Fg
def Qoh{P}{a d}{b}{Q}{c}{s}(h:Qw P a d b Q [.code c] .normal s):A P a d b c Q s:=by
 simp only[Qw]at h;exact h.mono λe g f=>by cases e<;>exact f
def QcE{P:Program}{X}(j:qU P X){f}{i:Func}{c}(n)(o:P.funcs[f]? = some i)(p:i.body=some c){F}{b:List D}{R}{g}(k:i.ntmps=g)(m:b.length<=g)
  (h:∀(a:Nat) (w:World) (e:List Pl),a<=w.heap.size->e.length=F.length->(exec X g n [.code c] ⟨jV b 0,F⟩).holds P a g ⟨w,F,e⟩ (AP X.L i.results.toList R)):QM P f F b R:=
 Qn4 j.L o p (by rw[k];exact m) λa w e l d=>Qoh (by rw[k];exact k9 j l n _ _ (h a w e l d))
end Go.Fg
namespace Go.Fg
open Go.RowKit (Below)
variable {Z:Nat->Prop}
inductive B1 (ops:Array Oper) (Zt:Array Bool) (i:Nat):Nat->Prop
 | Ss (j:Nat) (oj:Oper) (e:Edge) (hj:ops[j]? = some oj) (he:e∈oj.after) (hb:Region.binds .any e=true) (h:e.on=i):B1 ops Zt i j
 | step (j:Nat) (oj:Oper) (e:Edge) (hj:ops[j]? = some oj) (he:e∈oj.after) (hb:Region.binds .any e=true) (hu:Zt.getD e.on true=false) (h:B1 ops Zt i e.on):B1 ops Zt i j
def both{b:Array Bool}{i}(h:b.getD i true=false):b.getD i false=false:=by
 rcases xn i b.size with a|a
 .simp[a]at h ⊢;exact h
 .simp[Array.getElem?_eq_none a]at h
def B1.QcF{a}{g:Array Bool}{i j}(h:B1 a g i j)(o:g.getD i true=false):j ∉ Region.ready .any a g:=by
 intro n;obtain⟨_,p,b,k⟩:=mem_ready.1 n;cases h with
 | Ss _ l e c d f h=>
  rw[c]at b;cases b;have:=k e d f;rw[h,both o]at this;cases this
 | step _ l e c d f m h=>
  rw[c]at b;cases b;have:=k e d f;rw[both m]at this;cases this
def B1.set{a}{b:Array Bool}{i j k}(h:B1 a b i j)(p:b.getD i true=false)(o:k∈Region.ready .any a b):B1 a (b.setIfInBounds k true) i j:=by
 induction h with
 | Ss j c e d f g h=>exact .Ss j c e d f g h
 | step j c e d f g n h m=>
  refine .step j c e d f g ?_ m;have:k≠e.on:=λl=>by subst l;exact h.QcF p o
  rw[getD_set_ne true this];exact n
def AR(P:Program)(b:Array Oper)(N:Act->World->Prop)(e:Nat->World->World->Prop):Nat->Array Bool->Act->World->Prop
 | 0,c,a,w=>Region.ready .any b c=[]/\N a w
 | n+1,c,a,w=>(Region.ready .any b c=[]->N a w) /\
  ∀i∈Region.ready .any b c,wpOp P b (λ_ _ _=>False) i (λf d=>e i w d/\AR P b N e n (c.setIfInBounds i true) f d) a w
def Qoj{P}{o:Oper}{a}{w}{K}{Q}(h:o.wp P a w K (λ_ _ _=>False)):o.wp P a w K Q:=by
 unfold Oper.wp at *;generalize (execOp a.eval o).run P w=r at *;cases r with
 | ok n c=>
  cases n<;>simp only[Oper.upon]at h ⊢<;>first|exact h|skip
  .exact Calls.mono h λe d b=>by cases e<;>first|exact b|exact b.elim|exact(let ⟨_,_,h⟩:=b;h.elim)
 | halt x c=>cases x<;>simp only[Oper.upon]at h ⊢<;>exact h.elim
def dC{P}{c}{N}{p}{Q}(b:∀a w,N a w->Q .normal a w):∀(n:Nat) (g:Array Bool) (a:Act) (w:World),AR P c N p n g a w->wpAny P .any c Q n g a w
 | 0,_,_,_,h=>⟨h.1,b _ _ h.2⟩
 | n+1,g,a,w,h=>⟨λe=>b _ _ (h.1 e),λi j=>by
  have:=h.2 i j;unfold wpOp at this ⊢;split
  .rename_i f;simp only[f]at this;exact dC b n _ _ _ this.2
  .rename_i o f;simp only[f]at this;split
   .rename_i d;simp only[d,Vp]at this;rcases this with l|⟨_,_,_,k⟩
    .exact .inl (Qoj (Oper.wp_mono (λr q m=>dC b n _ _ _ m.2) l))
    .exact k.elim
   .rename_i d;simp only[d]at this;exact dC b n _ _ _ this.2⟩
def still(L:Je)(o:Oper):Bool:=match o.op with
 | .extract ..=>true
 | .move _=>true
 | .nilCheck _=>true
 | .fieldAddr t _ f=>match NQ L t f with
  | some (_,y)=>!Nat.beq y.size 0
  | none=>false
 | _=>false
def Qok{P}{L}(q:Z9 P L){o:Oper}(c:still L o=true){d}{w}{v}(h:(execOp d o).run P w=.ok (.value v) w)(j):(execOp d o).run P j=.ok (.value v) j:=by
 unfold still at c;split at c
 .rename_i x i b;simp only[execOp,b,Instr.extract]at h ⊢;split at h<;>first|skip|(simp at h)
  all_goals (first|(split at h<;>first|(simp at h)|skip)|skip)
  all_goals (first|(simp at h ⊢;exact h)|simp_all)
 .rename_i x b;simp only[execOp,b]at h ⊢;simp at h ⊢;exact h
 .rename_i x b;exact((VC.nilCheck b d) w _ w h).2 j
 .rename_i t x f b;split at c
  .rename_i s y p;obtain⟨g,r,k,l,_,n⟩:=mX q p;have m:y.size≠0:=λe=>by rw[e]at c;cases c
   cases hx:d x with
   | pointer a=>
    cases a with
    | some a=>
     have e:∀w:World,(execOp d o).run P w=.ok (.value (.pointer (some (a.add r.offset)))) w:=λw=>by
      simp[execOp,b,hx,Instr.fieldAt,run_underlying k,l,Instr.sureAddr,fieldPlace,n.sizeOf,m]
     rw[e w]at h;rw[e j];simp at h ⊢;exact h
    | none=>simp[execOp,b,hx,Instr.fieldAt,run_underlying k,l,Instr.sureAddr,stuck]at h
   | _=>simp[execOp,b,hx,Instr.fieldAt,run_underlying k,l,Instr.sureAddr,stuck]at h
  .cases c
 .cases c
def Qol{P}{c:Array Oper}{N}{y}{i}{p}{v}{S}(r:∀w,y i w w)(B:c[i]? = some p)(M:∀(j:Nat) (o:Oper) q b,c[j]? = some o->o.op≠.select q b):
  ∀(d:Nat) (e:Array Bool) (a:Act) (m:World),S m ->
   (∀j n,c[j]? = some n->j≠i->e.getD j true=false->B1 c e i j\/((∀w t,y j w t->S w->S t)/\p.apart c n=true)) ->
   i∈Region.ready .any c e->YieldsIf P c S p v a ->
   AR P c N y d (e.setIfInBounds i true) (a.put p.dst v) m->AR P c N y (d+1) e a m:=by
 intro d;induction d with
 | zero=>
  intro e a m z _ g u H;refine⟨λh=>(by rw[h]at g;cases g),λj l=>?_⟩;by_cases f:j=i
  .subst f;exact u.wpOp B z ⟨r _,H⟩
  .have:=ready_mono l f;rw[H.1]at this;cases this
 | succ d R=>
  intro e a m z L g u H;have I:=(mem_ready.1 g).1;refine⟨λh=>(by rw[h]at g;cases g),λj l=>?_⟩;by_cases f:j=i
  .subst f;exact u.wpOp B z ⟨r _,H⟩
  .have V:=H.2 j (ready_mono l f);obtain⟨J,n,E,Kr⟩:=mem_ready.1 l;obtain⟨Q,B2⟩:=(L j n E f J).resolve_left λC=>C.QcF I l;have U:=wpOp_putIf E B2 (λq b=>M i p q b B) (λq b=>M j n q b E) (λ_ _ _ h=>h) u V;refine wpOp_mono (λW t x=>?_) U;refine⟨x.2.1,R (e.setIfInBounds j true) W t (Q _ _ x.2.1 z) (λk O T Y s=>?_) (ready_mono g (Q9 f)) x.1 ?_⟩
   .have F:e.getD k true=false:=by
     by_cases K:j=k
     .subst K;exact J
     .rw[getD_set_ne true K]at s;exact s
    exact(L k O T Y F).imp (λC=>C.set I l) id
   .rw[Array.setIfInBounds_comm _ _ f];exact x.2.2
def K8(i:Nat):List Nat->Bool
 | []=>false
 | j::r=>Nat.beq i j || K8 i r
def xz{i}:∀{l:List Nat},K8 i l=true↔i∈l
 | []=>by simp[K8]
 | j::r=>by simp[K8,xz (l:=r)]
def dF(i:Nat):List Edge->Bool
 | []=>false
 | e::r=>(Region.binds .any e&&Nat.beq e.on i) || dF i r
def vg(done:List Nat):List Edge->Bool
 | []=>false
 | e::r=>(Region.binds .any e&&!K8 e.on done) || vg done r
def Od(a:Array Oper)(done:List Nat)(i:Nat):Nat->List Edge->Bool
 | 0,_=>false
 | _+1,[]=>false
 | n+1,e::r=>(Region.binds .any e&&(Nat.beq e.on i || (!K8 e.on done&&match a[e.on]? with
   | some o=>Od a done i n o.after.toList
   | none=>false))) || Od a done i n r
def Dx(o:Oper):Bool:=match o.op with
 | .load ..=>true
 | _=>false
def Dy(o:Oper):Bool:=match o.op with
 | .insert ..=>true
 | _=>false
def Su(d:List Nat)(L:Je)(a:Array Oper)(done:List Nat)(i:Nat)(c:Oper):List (Nat × Bool × Option Oper)->Bool
 | []=>true
 | (j,_,some b)::r=>(dF i b.after.toList || (((calm b&&!K8 j d) || still L c || (Dx c&&Dy b))&&c.apart a b) || Od a done i (4*a.size) b.after.toList)&&Su d L a done i c r
 | (_,_,none)::_=>false
def dG(l:List Nat):Nat->Bool
 | 0=>true
 | n+1=>K8 n l&&dG l n
def QcI{l}:∀{n:Nat},dG l n=true->∀j,j<n->j∈l
 | 0,_,j,h=>ω
 | n+1,h,j,a=>by
  simp only[dG,ZL,xz]at h;by_cases e:j=n
  .subst e;exact h.1
  .exact QcI h.2 j ω
def QcJ{i}:∀{l:List Edge},dF i l=true->∃e∈l,Region.binds .any e=true/\e.on=i
 | [],h=>by cases h
 | e::r,h=>by
  simp only[dF,yi,ZL,Wo]at h;rcases h with h|h
  .exact⟨e,σ,h.1,h.2⟩
  .obtain⟨c,b,a⟩:=QcJ h;exact⟨c,by simp[b],a⟩
def QcK{done}:∀{l:List Edge},vg done l=true->∃e∈l,Region.binds .any e=true/\e.on ∉ done
 | [],h=>by cases h
 | e::r,h=>by
  simp only[vg,yi,ZL,zB]at h;rcases h with h|h
  .exact⟨e,σ,h.1,λa=>by rw[xz.2 a]at h;cases h.2⟩
  .obtain⟨d,c,b⟩:=QcK h;exact⟨d,by simp[c],b⟩
def dH{done}:∀{l:List Edge},vg done l=false->∀e∈l,Region.binds .any e=true->e.on∈done
 | [],_,e,h,_=>by cases h
 | e::r,h,c,b,a=>by
  simp only[vg,Db,Gv]at h;rcases QF.1 b with h1|h1
  .subst h1;rcases h.1 with h2|h2
   .rw[a]at h2;cases h2
   .exact xz.1 (by simpa using h2)
  .exact dH h.2 c h1 a
structure Marks (ops:Array Oper) (Zt:Array Bool) (done:List Nat):Prop where
 size:Zt.size=ops.size
 get:∀j,j<ops.size->(Zt.getD j true=false↔j ∉ done)
 get':∀j,Zt.getD j false=true↔j∈done/\j<ops.size
 lt:∀j,j∈done->j<ops.size
def Marks.set{a:Array Oper}{d:Array Bool}{done}(M:Marks a d done){i}(c:i<a.size):Marks a (d.setIfInBounds i true) (i::done) where
 size:=by simp[M.size]
 get:=λj b=>by
  by_cases e:i=j
  .subst e;simp[M.size,c]
  .rw[getD_set_ne true e,M.get j b];simp[Q9 e]
 get':=λj=>by
  by_cases e:i=j
  .subst e;simp[M.size,c]
  .rw[getD_set_ne false e,M.get' j];simp[Q9 e]
 lt:=λj b=>by
  rcases QF.1 b with e|e
  .subst e;exact c
  .exact M.lt j e
def qV(o:Oper):Bool:=match o.op with
 | .alloc _=>true
 | .makeMap _ none=>true
 | _=>false
def Ha(P:Program)(o:Oper)(d:Ob)(mk:Nat->D):Prop:=∃(obj:Obj) (a:Nat->Value),
 (∀(e:Operand->Value) (w:World),(execOp e o).run P w=.ok (.value (a w.heap.size)) (w.alloc obj)) /\
 (∀(Z:Nat->Prop) (h:List Ob) (c:List Pl) (w:World) (b:Nat),w.heap[b]? = some obj->Kz Z h c w d b 0) /\
 (∀(Z:Nat->Prop) (h:List Ob) (c:List Pl) (w:World) (l b:Nat),h[l]? = some d->c[l]? = some (some (b,0))->QC Z h c w (mk l) (a b))
def QcL{P}{L}(n:Z9 P L){o:Oper}{t:TypeId}(g:o.op=.alloc t){y}(f:ty L t=some y):
  Ha P o ⟨.one,0,(y.zero.map J8).length,1,λ_=>y.zero.map J8⟩ (λl=>.ptr l 0 0 0):=by
 obtain⟨z,hz,r⟩:=(n _ _ f).zeroValue;refine⟨.cells z.cells t,λb=>.pointer (some ⟨b,0,none⟩),fun s w=>?_,λZ h d w b m=>?_,λZ h d w l b q p=>?_⟩
 .simp[execOp,g,Instr.alloc,newVar,newRow,r]
 .refine .NO rfl ⟨z.cells,t,m,by simp[<- hz],λ_ _=>rfl,λi j k a=>?_⟩;have e:i=0:=by simp at k;omega
  subst e;have c:j<z.cells.size:=by rw[<- hz]at a;simpa using a
  refine⟨Q7 z.cells.toList j,?_,.cl _ _ ?_⟩
  .simp only[Nat.zero_mul,JR,Q7,QY];rw[vW,jK c];rfl
  .rw[<- hz];simp only[nth,Q7,QY,KP,vW,jK c,K6,Ky];exact Di _ _ _
 .exact .ptr _ _ _ _ _ (some (b,0)) _ q p rfl (QB _) (λ_=>⟨_,_,rfl,σ⟩)
def QcM{P}{o:Oper}{t:TypeId}(d:o.op=.makeMap t none)(q):Ha P o (QS q 0 []) (λl=>.mref l 0):=by
 refine⟨.map #[] 0,λb=>.map (some b),fun m w=>?_,λZ h c w b f=>?_,λZ h c w l b k g=>?_⟩
 .simp[execOp,d,Instr.makeMap]
 .exact nN (kd:=.map) f ⟨rfl,λi e a h=>by simp at h,λi j a n _ h=>by simp at h⟩ rfl
 .exact .mref _ _ (QS q 0 []) (some (b,0)) b k g ⟨by simp[QS,Wr,Kd.ty],rfl⟩ (QB _) (λ_=>rfl)
section
variable (P:Program)(base nt:Nat)(w0:Start)
def E6(o : Oper): Bool := calm o && !(o.pos == "!")
def qn(b : Bool)(o : Oper): Oper := ⟨o.dst, o.op, o.type, bif b then "!" else "", #[], none⟩
theorem QcN{P}{b}{o:Oper}{a}{w}{K}{Q}:(qn b o).wp P a w K Q=o.wp P a w K Q:=rfl
def Qon(b)(o):E6 (qn b o)=(calm o&&!b):=by cases b<;>simp[E6,qn,calm]
def vh(o:Oper)(w a:World):Prop:=match o.op with
 | .insert ..=>jO w a
 | _=>E6 o=true->Ext w a
def vh.ext{o}{w a}(h:Ext w a):vh o w a:=by
 unfold vh;split
 .exact .ext h
 .exact λ_=>h
def vh.calm{o}{w a}(h:vh o w a)(b:E6 o=true):Ext w a:=by
 unfold vh at h;split at h
 .rename_i c;simp[E6,Go.Fg.calm,c]at b
 .exact h b
def vh.ins{o}{w b}(h:vh o w b)(a:Dy o=true):jO w b:=by
 unfold Dy at a;split at a
 .rename_i c;unfold vh at h;rw[c]at h;exact h
 .cases a
def vh.mk{o}{w a}(h:E6 o=true->Ext w a)(c:Dy o=false):vh o w a:=by
 unfold vh;split
 .rename_i b;simp[Dy,b]at c
 .exact h
def xA(c:List Nat)(a:Array Oper)(i:Nat)(w b:World):Prop:=match a[i]? with
 | some o=>vh (qn (K8 i c) o) w b
 | none=>True
def Lw{c}{a:Array Oper}{i}{o}{w b}(d:a[i]? = some o):xA c a i w b=vh (qn (K8 i c) o) w b:=by simp only[xA,d]
def AE(o:Oper)(F:St->Prop)(s:St):Prop:=∀(Z:Nat->Prop),Sg w0 Z->∀e a w,Rel Z base nt s e a w->Vg Z base w0 s.h e w ->
 o.wp P a w (λg b=>vh o w b/\∃d c f v,F ⟨Zg s.fr o.dst d,c⟩/\Rel Z base nt ⟨Zg s.fr o.dst d,c⟩ f g b/\Vg Z base w0 c f b/\Tr s.h e w c f b/\g=a.put o.dst v) (λ_ _ _=>False)
def Xq(b:Bool)(o:Oper)(F:St->Prop)(s:St):Prop:=match b with
 | true=>∃d,WA P base nt o s d/\(Dx o=true->bI P base nt o s d)/\Zn nt o.dst=true/\F ⟨Zg s.fr o.dst d,s.h⟩
 | false=>match qV o with
  | true=>∃a mk,Ha P o a mk/\Zn nt o.dst=true/\F ⟨Zg s.fr o.dst (mk s.h.length),s.h++[a]⟩
  | false=>AE P base nt w0 o F s
def AX(K:St->Prop):List (Bool × Oper × G)->St->Prop
 | [],s=>K s
 | (a,o,g)::r,s=>match g with
  | none=>Xq P base nt w0 a o (AX K r) s
  | some (none,_)=>Zn nt o.dst=true/\AX K r ⟨Zg s.fr o.dst (.raw Go.undef),s.h⟩
  | some (some t,b)=>match get s.fr t with
   | .raw (.bool x)=>(x=b->Xq P base nt w0 a o (AX K r) ⟨put s.fr t (.raw (.bool b)),s.h⟩) /\
     (x=(!b)->Zn nt o.dst=true/\AX K r ⟨Zg (put s.fr t (.raw (.bool (!b)))) o.dst (.raw Go.undef),s.h⟩)
   | .raw (.tuple _)=>Zn nt o.dst=true/\AX K r ⟨Zg s.fr o.dst (.raw Go.undef),s.h⟩
   | _=>False
end
def VO(c:List Nat)(a:Array Oper)(l:List (Nat × Bool)):List (Bool × Oper × G):=l.map λb=>match a[b.1]? with
 | some o=>(b.2,qn (K8 b.1 c) o,guardOf a o)
 | none => (b.2, ⟨none, .move (.tmp 0), 0, "", #[], none⟩, none)
section
variable {nc:List Nat}{P:Program}{base nt:Nat}{w0:Start}
def Qoo{o:Oper}{c}{mk}{F}{s:St}(h:Ha P o c mk)(j:Zn nt o.dst=true)(B:base<=w0.w.heap.size)(u:F ⟨Zg s.fr o.dst (mk s.h.length),s.h++[c]⟩):AE P base nt w0 o F s:=by
 intro Z z d a w r b;obtain⟨obj,g,y,x,v⟩:=h;have e:∀k,k<w.heap.size->(w.alloc obj).heap[k]? = w.heap[k]? := λk f=>xq w obj k f;have C:(w.alloc obj).heap[w.heap.size]? = some obj:=heap_alloc_new w obj;have i:base<=w.heap.size:=Kv B b.1.size;have T:Tr s.h d w (s.h++[c]) (d++[some (w.heap.size,0)]) (w.alloc obj):=Tr.push r.o e _ _ (by intro k q n;simp at n;omega);have l:=Zl.RX r.o e c (QB _) i (x Z (s.h++[c]) (d++[some (w.heap.size,0)]) _ _ C);have m:QC Z (s.h++[c]) (d++[some (w.heap.size,0)]) (w.alloc obj) (mk s.h.length) (g w.heap.size):=v Z _ _ _ _ _ σ (by rw[<- r.o.len];simp);unfold Oper.wp;rw[y a.eval w];simp only[Oper.upon_value];refine⟨vh.ext λk f=>e k f,_,_,_,_,u,?_,b.step T (ER i obj),T,rfl⟩;cases p:o.dst with
 | none=>exact r.Av T l _
 | some t=>rw[p]at j;exact r.to T l (kZ j) m
def Xq.ae(d:base<=w0.w.heap.size){o}{F}{s}(h:Xq P base nt w0 false o F s):AE P base nt w0 o F s:=by
 simp only[Xq]at h;split at h
 .obtain⟨e,mk,c,b,a⟩:=h;exact Qoo c b d a
 .exact h
def QC.Oe{Z M}{h L}{B F}{w C:World}(Q:∀b,free Z B b->b<w.heap.size->free M F b/\C.heap[b]? = w.heap[b]?)
  (n:∀(l:Nat) (o:Ob) (p:Pl),h[l]? = some o->B[l]? = some p->L[l]? = some o/\F[l]? = some p) (R:∀(l b q:Nat),B[l]? = some (some (b,q))->C.heap[b]? = w.heap[b]?) {d:D} {v:Value} (r:QC Z h B w d v):QC M L F C d v:=by
 induction r with
 | cl d v E=>exact .cl d v (E.mono Q)
 | ref l g H I o p a J k e x y u=>
  refine .ref l g H I o p a J (n l o p k e).1 (n l o p k e).2 x y λV=>?_;rcases u V with T|⟨b,q,c,el,N,S,U,E,m⟩
  .exact .inl T
  .exact .inr ⟨b,q,c,el,N,S,by rw[R l b q (by rw[e,N])];exact U,E,m⟩
 | ptr l g i j o p a k e x y u=>exact .ptr l g i j o p a (n l o p k e).1 (n l o p k e).2 x y u
 | mref l g o p b k e x y u=>exact .mref l g o p b (n l o p k e).1 (n l o p k e).2 x y u
 | clo f O z s m K t=>exact .clo f O z s m t
 | agg z s m K t=>exact .agg z s m t
 | tup z s m K t=>exact .tup z s m t
def Zl.Oe{Z g}{h}{c}{w f:World}(R:Zl Z base h c w)(n:∀b,free Z c b->b<w.heap.size->free g c b/\f.heap[b]? = w.heap[b]?)(e:∀b,b<w.heap.size->f.heap[b]? = w.heap[b]?):Zl g base h c f where
 len:=R.len
 inj:=R.inj
 V0:=R.V0
 at_:=λl o b q m d=>by
  obtain⟨p,x⟩:=R.at_ l o b q m d;exact⟨p,x.to rfl rfl rfl (e b (R.lt d).1) (λ_ _=>rfl) λi j v _ _ k=>k.Oe n (λ_ _ _ a b=>⟨a,b⟩) (λl b q d=>e b (R.lt d).1)⟩
def Zl.n8{Z s}{h}{k}{w}(R:Zl Z base h k w){b}(C:∀c,free Z k c->free s (k++[some (b,0)]) c)(y:Xy k b)(J:base<=b){n}
  (z:Kz s (h++[n]) (k++[some (b,0)]) w n b 0):Zl s base (h++[n]) (k++[some (b,0)]) w:=by
 refine⟨by simp[R.len],?_,?_,?_⟩
 .intro l u r q t p H;rcases Yt p with e|⟨e,f⟩<;>rcases Yt H with d|⟨d,g⟩
  .exact R.inj l u r q t e d
  .simp at g;obtain⟨rfl,rfl⟩:=g;exact absurd e (y l q)
  .simp at f;obtain⟨rfl,rfl⟩:=f;exact absurd d (y u t)
  .omega
 .intro l o m p;rcases Yt p with e|⟨e,f⟩
  .rcases Yt m with d|⟨d,g⟩
   .exact R.V0 l o d e
   .have:=Wp e;have:=R.len;omega
  .simp at f
 .intro l o r q m I;rcases Yt I with e|⟨e,f⟩
  .rcases Yt m with d|⟨d,g⟩
   .obtain⟨F,x⟩:=R.at_ l o r q d e;exact⟨F,x.to rfl rfl rfl rfl (λ_ _=>rfl) λi j v _ _ B=>B.Oe (λc E _=>⟨C c E,rfl⟩) (λ_ _ _ a b=>⟨BJ a,BJ b⟩) (λ_ _ _ _=>rfl)⟩
   .have:=Wp e;have:=R.len;omega
  .rcases Yt m with d|⟨d,g⟩
   .have:=KA d;have:=R.len;omega
   .subst g;simp at f;obtain⟨rfl,rfl⟩:=f;exact⟨λ_=>J,z⟩
def WB(a:Array Oper)(i:Nat):Bool:=match a[i]? with
 | some o=>qV o&&o.guard.isNone&&o.after.toList.isEmpty
 | none=>false
def Of(a:Array Oper)(done:List Nat)(i:Nat):List Edge->Bool
 | []=>false
 | e::r=>(Region.binds .any e&&!K8 e.on done&&(!WB a e.on || Nat.beq e.on i)) || Of a done i r
def Sv(a:Array Oper)(done:List Nat)(i:Nat):List (Nat × Bool × Option Oper)->Bool
 | []=>true
 | (j,_,some b)::r=>(WB a j || Of a done i b.after.toList)&&Sv a done i r
 | (_,_,none)::_=>false
def Lx(a:Array Oper)(R:List Nat):List (Nat × Bool × Option Oper):=R.map λi=>(i,false,a[i]?)
def E7(nc:List Nat)(L:Je)(a:Array Oper)(R:List Nat):List (Nat × Bool × Option Oper)->List Nat->Bool
 | [],_=>true
 | (i,p,some o)::r,done=>!K8 i done&&!vg done o.after.toList&&(match p with
  | true=>!WB a i&&Su nc L a done i o (r++Lx a R)
  | false=>Sv a done i (r++Lx a R))&&E7 nc L a R r (i::done)
 | (_,_,none)::_,_=>false
def QcO{a}{done}{i}:∀{l:List Edge},Of a done i l=true->∃e∈l,Region.binds .any e=true/\e.on ∉ done/\(WB a e.on=false\/e.on=i)
 | [],h=>by cases h
 | e::r,h=>by
  simp only[Of,yi,ZL,zB,Wo]at h;rcases h with h|h
  .exact⟨e,σ,h.1.1,(λb=>by rw[xz.2 b]at h;exact absurd h.1.2 σ),h.2⟩
  .obtain⟨f,d,c⟩:=QcO h;exact⟨f,by simp[d],c⟩
def QcP{a:Array Oper}{done}{i}:∀{r:List (Nat × Bool × Option Oper)},(∀x∈r,x.2.2=a[x.1]?)->Sv a done i r=true->∀x∈r,∀b,a[x.1]? = some b->WB a x.1=true\/Of a done i b.after.toList=true
 | [],_,_,x,hx,_,_=>by cases hx
 | (j,p,none)::r,_,h,_,_,_,_=>by cases h
 | (j,p,some o)::r,d,h,x,hx,b,c=>by
  simp only[Sv,ZL,yi]at h;rcases QF.1 hx with h1|h1
  .subst h1;have e:some o=a[j]? := d (j,p,some o) σ;have c:a[j]? = some b:=c;rw[c]at e;cases e;exact h.1
  .exact QcP (λy f=>d y (by simp[f])) h.2 x h1 b c
abbrev En:=Nat × Bool × Option Nat
def XP(l:List En):List Nat:=l.map (·.1)
def YN(l:List En):List (Nat × Bool):=l.map λx=>(x.1,x.2.1)
def early:List En->List Nat
 | []=>[]
 | (i,_,some _)::r=>i::early r
 | (_,_,none)::r=>early r
def blocks:List En->List Nat
 | []=>[]
 | (_,_,some b)::r=>b::blocks r
 | (_,_,none)::r=>blocks r
def YO:List En->Nat
 | []=>0
 | (_,_,some _)::r=>YO r
 | (_,_,none)::r=>YO r+1
def Lz{j}:∀{l:List En},j∈early l↔∃p b,(j,p,some b)∈l
 | []=>by simp[early]
 | (i,p,some b)::r=>by
  simp only[early,QF,Lz (l:=r),Ze,Q6];constructor
  .rintro (rfl|⟨a,c,h⟩)
   .exact⟨p,b,.inl ⟨rfl,rfl,rfl⟩⟩
   .exact⟨a,c,.inr h⟩
  .rintro⟨a,c,⟨rfl,_⟩|h⟩
   .exact .inl rfl
   .exact .inr ⟨a,c,h⟩
 | (i,p,none)::r=>by
  simp only[early,QF,Lz (l:=r),Ze,reduceCtorEq,and_false,false_or]
def E8{c}:∀{l:List En},c∈blocks l↔∃j p,(j,p,some c)∈l
 | []=>by simp[blocks]
 | (i,p,some b)::r=>by
  simp only[blocks,QF,E8 (l:=r),Ze,Q6];constructor
  .rintro (rfl|⟨a,d,h⟩)
   .exact⟨i,p,.inl ⟨rfl,rfl,rfl⟩⟩
   .exact⟨a,d,.inr h⟩
  .rintro⟨a,d,⟨_,_,rfl⟩|h⟩
   .exact .inl rfl
   .exact .inr ⟨a,d,h⟩
 | (i,p,none)::r=>by
  simp only[blocks,QF,E8 (l:=r),Ze,reduceCtorEq,and_false,false_or]
def n9{j:Nat}{p:Bool}{b:Nat}{l2:List En}:∀a:List En,YO (a++(j,p,none)::l2)=YO (a++(j,p,some b)::l2)+1
 | []=>rfl
 | (_,_,some _)::r=>n9 r
 | (_,_,none)::r=>by
  simp only[qc,YO];rw[n9 (b:=b) r]
def oa{j:Nat}{p:Bool}{b:Nat}{a:List En}:∀d:List En,b ∉ blocks (d++(j,p,none)::a)->(blocks (d++(j,p,none)::a)).Nodup->(blocks (d++(j,p,some b)::a)).Nodup
 | [],h,k=>by simp only[jM,blocks]at h k ⊢;exact ZY.2 ⟨h,k⟩
 | (i,q,some c)::r,h,k=>by
  simp only[qc,blocks,QF,qP]at h k ⊢;obtain⟨f,l⟩:=ZY.1 k;refine ZY.2 ⟨λm=>?_,oa r h.2 l⟩;obtain⟨g,e,n⟩:=E8.1 m;rcases Q3.1 n with h1|h1
  .exact f (E8.2 ⟨g,e,Q3.2 (.inl h1)⟩)
  .rcases QF.1 h1 with h2|h2
   .cases h2;exact h.1 rfl
   .exact f (E8.2 ⟨g,e,Q3.2 (.inr (QF.2 (.inr h2)))⟩)
 | (i,q,none)::r,h,k=>by
  simp only[qc,blocks]at h k ⊢;exact oa r h k
structure dI (P:Program) (ops:Array Oper) (nt:Nat) (w0:Start) (pl:List Pl) (a:Act) (w:World) (i b:Nat):Prop where
 run:∃(o:Oper) (d:Nat) (w1:World) (ρ:Operand->Value) (v:Value) (obj:Obj),ops[i]? = some o/\o.dst=some d/\(execOp ρ o).run P w1=.ok (.value v) (w1.alloc obj)/\b=w1.heap.size/\w.heap[b]? = some obj/\(d<nt->a.tmps.getD d Go.undef=v)
 Xy:Xy pl b
 low:w0.w.heap.size<=b
def QcQ{a:Act}{t:Option Nat}{d:Nat}{v:Value}(h:t≠some d):(a.put t v).tmps.getD d Go.undef=a.tmps.getD d Go.undef:=by
 cases t with
 | none=>rfl
 | some t=>
  have:t≠d:=λe=>h (by rw[e]);simp[Act.put,yh,mH this]
def dI.step{P:Program}{c:Array Oper}{nt:Nat}{w0:Start}{h h':List Ob}{f l:List Pl}{a:Act}{w e:World}{i b:Nat}(p:dI P c nt w0 f a w i b)(T:Tr h f w h' l e){t:Option Nat}(v:Value)
  (x:∀o d,c[i]? = some o->o.dst=some d->t≠some d):dI P c nt w0 l (a.put t v) e i b:=by
 obtain⟨o,d,n,m,u,obj,k,j,B,z,g,y⟩:=p.run;obtain⟨r,q⟩:=T.Ko b p.Xy (kO g);exact⟨⟨o,d,n,m,u,obj,k,j,B,z,by rw[q];exact g,λs=>by rw[QcQ (x o d k j)];exact y s⟩,r,p.low⟩
def dJ{a}{t}{u}{d}(h:t≠some u):get (Zg a t d) u=get a u:=by
 cases t with
 | none=>rfl
 | some t=>rw[Zg,EM,Qd (λe=>h (by rw[e]))]
structure yy (nc:List Nat) (P:Program) (L:Je) (ops:Array Oper) (R:List Nat) (base nt:Nat) (w0:Start) (Z0 Z:Nat->Prop) (l:List En) (done:List Nat) (Zt:Array Bool) (s:St) (pl:List Pl) (a:Act) (w:World):Prop where
 sched:E7 nc L ops R ((YN l).map λip=>(ip.1,ip.2,ops[ip.1]?)) done=true
 cover:∀j,j<ops.size->j ∉ done->j∈XP l\/j∈R
 Og:∀j∈R,j ∉ done/\j ∉ XP l/\WB ops j=false
 marks:Marks ops Zt (early l++done)
 late:∀i p b,(i,p,some b)∈l->WB ops i=true
 lp:∀i p q,(i,p,q)∈l->WB ops i=true->p=false
 z:∀b,Z b↔Z0 b/\b ∉ blocks l
 z0:∀i p b,(i,p,some b)∈l->Z0 b
 Sw:(blocks l).Nodup
 Sx:∀i p q,(i,p,q)∈l->WB ops i=true->∀o d,ops[i]? = some o->o.dst=some d->get s.fr d=.undef
 rel:Rel Z base nt s pl a w
 since:Vg Z base w0 s.h pl w
 LA:∀i p b,(i,p,some b)∈l->dI P ops nt w0 pl a w i b
def dK{L}{a:Array Oper}{R}:∀{l:List En} {done:List Nat},E7 nc L a R ((YN l).map λc=>(c.1,c.2,a[c.1]?)) done=true->∀j,j∈XP l->j ∉ done
 | [],_,_,j,b=>by simp[XP]at b
 | (i,p,q)::r,done,h,j,b=>by
  simp only[YN,JQ]at h;cases e:a[i]? with
  | none=>rw[e]at h;cases h
  | some o=>
   rw[e]at h;simp only[E7,ZL,zB]at h;simp only[XP,JQ,QF]at b;rcases b with rfl|b
   .exact λd=>by rw[xz.2 d]at h;exact absurd h.1.1.1 σ
   .exact λd=>dK (l:=r) h.2 j b (QF.2 (.inr d))
def Marks.same{a}{e}{d c}(M:Marks a e d)(h:∀j,j∈d↔j∈c):Marks a e c where
 size:=M.size
 get:=λj b=>by rw[M.get j b,h]
 get':=λj=>by rw[M.get',h]
 lt:=λj b=>M.lt j ((h j).2 b)
def dL{a:Array Oper}{i}{o:Oper}(b:a[i]? = some o)(h:WB a i=true):qV o=true/\o.guard=none/\∀e,e ∉ o.after:=by
 simp only[WB,b,ZL,Option.isNone_iff_eq_none,List.isEmpty_iff]at h;exact⟨h.1.1,h.1.2,λe c=>by have:e∈o.after.toList:=(by simpa using c);rw [h.2] at this; cases this⟩
def oc{a:Array Oper}{t}{done s}(M:Marks a t (s++done))(p:∀j∈s,WB a j=true){i}:∀{n:Nat} {j:Nat} {b:Oper} {l:List Edge},a[j]? = some b->(∀e∈l,e∈b.after)->Od a done i n l=true->B1 a t i j
 | 0,_,_,_,_,_,h=>by cases h
 | n+1,_,_,[],_,_,h=>by cases h
 | n+1,j,b,e::r,m,k,h=>by
  simp only[Od,yi,ZL,Wo,zB]at h;rcases h with ⟨q,f|⟨f,d⟩⟩|h
  .exact .Ss j b e m (k e σ) q f
  .split at d
   .rename_i o g;have Qc:=(WL.1 g).1;refine .step j b e m (k e σ) q ((M.get e.on Qc).2 λu=>?_) (oc M p g (λe c=>by simpa using c) d);rcases Q3.1 u with h3|h3
    .have v:=(dL g (p _ h3)).2.2;have:o.after.toList=[]:=mK.2 λe c=>v e (by simpa using c);rw[this]at d;cases n<;>simp[Od]at d
    .rw[xz.2 h3]at f;cases f
   .cases d
  .exact oc M p m (λe c=>k e (by simp[c])) h
def QcR{L}{a:Array Oper}{done k}{i}{d:Oper}{l}(M:Marks a l (k++done))(m:∀j∈k,WB a j=true):∀{r:List (Nat × Bool × Option Oper)},(∀x∈r,x.2.2=a[x.1]?)->Su nc L a done i d r=true->∀x∈r,∀b,a[x.1]? = some b->B1 a l i x.1\/((((calm b=true/\K8 x.1 nc=false)\/still L d=true)\/(Dx d=true/\Dy b=true))/\d.apart a b=true)
 | [],_,_,x,hx,_,_=>by cases hx
 | (j,p,none)::r,_,h,_,_,_,_=>by cases h
 | (j,p,some o)::r,g,h,x,hx,b,c=>by
  simp only[Su,ZL,yi]at h;rcases QF.1 hx with h1|h1
  .subst h1;have e:some o=a[j]? := g (j,p,some o) σ;have c:a[j]? = some b:=c;rw[c]at e;cases e;rcases h.1 with (h2|h2)|h2
   .obtain⟨e,f,q,s⟩:=QcJ h2;exact .inl (.Ss j _ e c (by simpa using f) q s)
   .simp only[zB]at h2;exact .inr h2
   .exact .inl (oc M m c (λe f=>by simpa using f) h2)
  .exact QcR M m (λy n=>g y (by simp[n])) h.2 x h1 b c
def Sy(a:Array Oper):Prop:=∀(i j:Nat) (c b:Oper) (d:Nat),i≠j->WB a i=true->a[i]? = some c->a[j]? = some b->c.dst=some d->b.dst≠some d
def yy.head{L}{b}{R}{n Z}{i}{p}{q}{r}{done}{m}{s}{g}{a}{w}(I:yy nc P L b R base nt w0 n Z ((i,p,q)::r) done m s g a w):
  ∃o,b[i]? = some o/\i ∉ done/\(∀e∈o.after,Region.binds .any e=true->e.on∈done) /\
   (p=true->WB b i=false/\Su nc L b done i o ((YN r).map (λc=>(c.1,c.2,b[c.1]?))++Lx b R)=true)/\(p=false->Sv b done i ((YN r).map (λc=>(c.1,c.2,b[c.1]?))++Lx b R)=true) /\
   E7 nc L b R ((YN r).map λc=>(c.1,c.2,b[c.1]?)) (i::done)=true:=by
 have h:=I.sched;simp only[YN,JQ]at h;cases f:b[i]? with
 | none=>rw[f]at h;cases h
 | some o=>
  rw[f]at h;simp only[E7,ZL,zB]at h;refine⟨o,rfl,λj=>by rw[xz.2 j]at h;exact absurd h.1.1.1 σ,λe k l=>dH h.1.1.2 e (by simpa using k) l,λd=>?_,λd=>?_,h.2⟩
  .subst d;have:=h.1.2;simp only[ZL,zB]at this;exact this
  .subst d;exact h.1.2
def od{i}{p}{q}{l}(h:(i,p,q)∈l):i∈XP l:=Jl.2 ⟨_,h,rfl⟩
def yy.next{L}{f}{R}(Q:Sy f){H Z}{i}{p}{r}{done}{E}{s s'}{y t}{a}{w m}(I:yy nc P L f R base nt w0 H Z ((i,p,none)::r) done E s y a w)
  {o:Oper} (x:f[i]? = some o) (v:Value) (T:Tr s.h y w s'.h t m) (O:Rel Z base nt s' t (a.put o.dst v) m) (N:Vg Z base w0 s'.h t m) (M:∀d,o.dst≠some d->get s.fr d=.undef->get s'.fr d=.undef) :
  yy nc P L f R base nt w0 H Z r (i::done) (E.setIfInBounds i true) s' t (a.put o.dst v) m:=by
 obtain⟨U,F,Y,W,V,h4,B⟩:=I.head;rw[x]at F;cases F;have Qc:=(WL.1 x).1;have S:∀j p q,(j,p,q)∈r->j≠i:=λj p q c e=>dK B j (od c) (by rw[e];simp);have C:∀j p q,(j,p,q)∈r->WB f j=true->∀k d,f[j]? = some k->k.dst=some d->o.dst≠some d:=λj p q c n k d l g=>Q j i k o d (S j p q c) n l x g;refine⟨B,λj c g=>?_,λj c=>?_,(I.marks.set Qc).same λj=>?_,λj p b c=>I.late j p b (Ki _ c),λj p q c=>I.lp j p q (Ki _ c),I.z,λj p b c=>I.z0 j p b (Ki _ c),I.Sw,λj p q c n k d l g=>?_,O,N,λj p b c=>?_⟩
 .simp only[QF,qP]at g;have:=I.cover j c g.2;simp only[XP,JQ,QF]at this;rcases this with (h|h)|h
  .exact absurd h g.1
  .exact .inl h
  .exact .inr h
 .obtain⟨K,u,J⟩:=I.Og j c;simp only[XP,JQ,QF,qP]at u;exact⟨λh=>by
   rcases QF.1 h with h|h
   .exact u.1 h
   .exact K h,u.2,J⟩
 .simp only[early,QF,Q3];constructor
  .rintro (h|h|h)
   .exact .inr (.inl h)
   .exact .inl h
   .exact .inr (.inr h)
  .rintro (h|h|h)
   .exact .inr (.inl h)
   .exact .inl h
   .exact .inr (.inr h)
 .exact M d (C j p q c n k d l g) (I.Sx j p q (Ki _ c) n k d l g)
 .exact(I.LA j p b (Ki _ c)).step T v λk d l g=>C j p _ c (I.late j p b (Ki _ c)) k d l g
def Tr.snoc{h r}{j t}{w i:World}(T:Tr h j w r t i){b q}(B:w.heap.size<=b)(v):Tr h j w (r++[v]) (t++[some (b,q)]) i where
 Ko:=λc f Qc=>⟨RW (T.Ko c f Qc).1 λq e=>by simp at e;omega,(T.Ko c f Qc).2⟩
 obj:=λl o p d a=>by
  obtain⟨k,u,g,n,m⟩:=T.obj l o p d a;exact⟨k,u,BJ g,BJ n,m⟩
 shape:=λl o k b q d s x a c el f=>by
  obtain⟨z,y,g,n,m⟩:=T.obj l o _ d a;rw[BJ g]at s;cases s;exact T.shape l o _ b q d g x a c el f
def yy.n8{L}{g}{R}(hD:Sy g)(Q5:base<=w0.w.heap.size){m Z}{i b}{p}{r}{done}{Zt}{s}{k}{a}{w}(I:yy nc P L g R base nt w0 m Z ((i,p,some b)::r) done Zt s k a w)
  {o:Oper} (O:g[i]? = some o) {y:Ob} {mk:Nat->D} (hL:Ha P o y mk) (Y:Zn nt o.dst=true) :
  ∃Z',yy nc P L g R base nt w0 m Z' r (i::done) Zt ⟨Zg s.fr o.dst (mk s.h.length),s.h++[y]⟩ (k++[some (b,0)]) a w:=by
 obtain⟨o',ZM,S,h2,h3,h4,h5⟩:=I.head;rw[O]at ZM;cases ZM;have QA:∀j p q,(j,p,q)∈r->j≠i:=λj p q f e=>dK h5 j (od f) (by rw[e];simp);have Oh:=I.late i p b (Kx ..);have dM:∀j p q,(j,p,q)∈r->WB g j=true->∀x d,g[j]? = some x->x.dst=some d->o.dst≠some d:=λj p q f F x d H n=>hD j i x o d (QA j p q f) F H O n;obtain⟨o1,d,J,ρ,v,obj,g1,g2,g3,g4,g5,g6⟩:=(I.LA i p b (Kx ..)).run;rw[O]at g1;cases g1;have Oi:=(I.LA i p b (Kx ..)).Xy;have Oj:=(I.LA i p b (Kx ..)).low;obtain⟨C,a0,N,B,M⟩:=hL;have K:=N ρ J;rw[g3]at K;simp only[Result.ok.injEq,Next.value.injEq]at K;obtain⟨rfl,U⟩:=K;have Dz:obj=C:=by
  have e1:=heap_alloc_new J obj;have e2:=heap_alloc_new J C;rw[U,e2]at e1;exact(NL e1).symm
 subst Dz;have dN:d<nt:=by rw[g2]at Y;exact kZ Y
 have hz:∀c,Z c↔m c/\c≠b/\c ∉ blocks r:=λc=>by rw[I.z c];simp only[blocks,QF,qP]
 have X8:b ∉ blocks r:=by have:=I.Sw;simp only[blocks]at this;exact(ZY.1 this).1
 have V:m b:=I.z0 i p b (Kx ..);have W:∀c,free Z k c->free (λc=>m c/\c ∉ blocks r) (k++[some (b,0)]) c:=λc u=>⟨⟨((hz c).1 u.1).1,((hz c).1 u.1).2.2⟩,RW u.2 λq e=>by simp at e;exact((hz c).1 u.1).2.1 e.1.symm⟩;have E:k.length=s.h.length:=I.rel.o.len;have hx:=B (λc=>m c/\c ∉ blocks r) (s.h++[y]) (k++[some (b,0)]) w b g5;have hO:=I.rel.o.n8 W Oi (Kv Q5 Oj) hx;have hv:=M (λc=>m c/\c ∉ blocks r) (s.h++[y]) (k++[some (b,0)]) w s.h.length b σ (by rw[<- E];simp);have xB:∀{d v},QC Z s.h k w d v->QC (λc=>m c/\c ∉ blocks r) (s.h++[y]) (k++[some (b,0)]) w d v:=λhr=>hr.Oe (λc u _=>⟨W c u,rfl⟩) (λ_ _ _ a b=>⟨BJ a,BJ b⟩) (λ_ _ _ _=>rfl);refine⟨λc=>m c/\c ∉ blocks r,h5,λj f n=>?_,λj f=>?_,I.marks.same λj=>?_,λj p b f=>I.late j p b (Ki _ f),λj p q f=>I.lp j p q (Ki _ f),λc=>Iff.rfl,λj p b f=>I.z0 j p b (Ki _ f),?_,λj p q f F x d H n=>?_,⟨I.rel.nt,I.rel.defers,λt=>?_,hO⟩,⟨I.since.1,?_,⟨λc u=>?_,λl c q e h0=>?_⟩⟩,λj p b' f=>?_⟩
 .simp only[QF,qP]at n;have:=I.cover j f n.2;simp only[XP,JQ,QF]at this;rcases this with (h|h)|h
  .exact absurd h n.1
  .exact .inl h
  .exact .inr h
 .obtain⟨N,B,M⟩:=I.Og j f;simp only[XP,JQ,QF,qP]at B;exact⟨λh=>by
   rcases QF.1 h with h|h
   .exact B.1 h
   .exact N h,B.2,M⟩
 .simp only[early,QF,Q3];constructor
  .rintro ((h|h)|h)
   .exact .inr (.inl h)
   .exact .inl h
   .exact .inr (.inr h)
  .rintro (h|h|h)
   .exact .inl (.inr h)
   .exact .inl (.inl h)
   .exact .inr h
 .have:=I.Sw;simp only[blocks]at this;exact(ZY.1 this).2
 .rw[dJ (dM j p q f F x d H n)];exact I.Sx j p q (Ki _ f) F x d H n
 .rw[g2,Zg,EM];by_cases e:t=d
  .rw[Qe e,e,g6 dN,<- g4];exact hv
  .rw[Qd e];exact xB (I.rel.fr t)
 .exact I.since.2.1.snoc Oj y
 .exact(I.z c).1 (I.since.2.2.new c u) |> λh=>⟨h.1,λQ=>h.2 (by simp only[blocks,QF];exact .inr Q)⟩
 .rcases Yt e with S|⟨S,Jo⟩
  .exact(I.z c).1 (I.since.2.2.own l c q S h0) |> λh=>⟨h.1,λQ=>h.2 (by simp only[blocks,QF];exact .inr Q)⟩
  .simp at Jo;obtain⟨rfl,rfl⟩:=Jo;exact⟨V,X8⟩
 .have T:=I.LA j p b' (Ki _ f);exact⟨T.run,RW T.Xy λq e=>by
   simp at e;exact X8 (by rw[e.1];exact E8.2 ⟨j,p,f⟩),T.low⟩
def LB{j b:Nat}{p:Bool}{c a:List En}{x:En}(h:x∈c++(j,p,some b)::a):x∈c++(j,p,none)::a\/x=(j,p,some b):=by
 rcases Q3.1 h with h|h
 .exact .inl (Q3.2 (.inl h))
 .rcases QF.1 h with h|h
  .exact .inr h
  .exact .inl (Q3.2 (.inr (Ki _ h)))
def QcT{j b:Nat}{p:Bool}{d a:List En}{i c:Nat}{q:Bool}(h:(i,q,some c)∈d++(j,p,none)::a):(i,q,some c)∈d++(j,p,some b)::a:=by
 rcases Q3.1 h with h|h
 .exact Q3.2 (.inl h)
 .rcases QF.1 h with h|h
  .cases h
  .exact Q3.2 (.inr (Ki _ h))
def yy.exec{L:Je}{n:Array Oper}{R:List Nat}(hD:Sy n)(Q5:base<=w0.w.heap.size){x Z:Nat->Prop}{j:Nat}{p:Bool}{m g:List En}{done:List Nat}{V:Array Bool}{s:St}{r:List Pl}{a:Act}{w:World}(I:yy nc P L n R base nt w0 x Z (m++(j,p,none)::g) done V s r a w)
  {o:Oper} (F:n[j]? = some o) (B:WB n j=true) {d:Nat} (y:o.dst=some d) {v:Value} {f:Obj} (Zf:(execOp a.eval o).run P w=.ok (.value v) (w.alloc f)) (Q:∀i p' q,(i,p',q)∈m++(j,p,none)::g->q≠none->i≠j) :
  ∃Z',yy nc P L n R base nt w0 x Z' (m++(j,p,some w.heap.size)::g) done (V.setIfInBounds j true) s r (a.put o.dst v) (w.alloc f):=by
 have Qc:=(WL.1 F).1;have N:(j,p,none)∈m++(j,p,none)::g:=Q3.2 (.inr (Kx ..));have e:∀k,k<w.heap.size->(w.alloc f).heap[k]? = w.heap[k]? := λk hk=>xq w f k hk;have Y:(w.alloc f).heap[w.heap.size]? = some f:=heap_alloc_new w f;have JA:w.heap.size<(w.alloc f).heap.size:=kO Y;have zL:base<=w.heap.size:=Kv Q5 I.since.1.size;have AM:∀c,c∈blocks (m++(j,p,none)::g)->c<w.heap.size:=λc C=>by
  obtain⟨i,q,hq⟩:=E8.1 C;obtain⟨_,_,_,_,_,_,_,_,_,_,h5,_⟩:=(I.LA i q c hq).run;exact kO h5
 have X8:w.heap.size ∉ blocks (m++(j,p,none)::g):=λh=>by have:=AM _ h;omega
 have Sz:x w.heap.size:=((I.z _).1 (I.since.2.2.new _ (QB _))).1;have KQ:∀c,c∈blocks (m++(j,p,some w.heap.size)::g)↔c∈blocks (m++(j,p,none)::g)\/c=w.heap.size:=λc=>by
  rw[E8,E8];constructor
  .rintro⟨i,q,h⟩;rcases LB h with h|h
   .exact .inl ⟨i,q,h⟩
   .cases h;exact .inr rfl
  .rintro (⟨i,q,h⟩|rfl)
   .exact⟨i,q,QcT h⟩
   .exact⟨j,p,Q3.2 (.inr (Kx ..))⟩
 have O:∀c,(x c/\c ∉ blocks (m++(j,p,some w.heap.size)::g))↔Z c/\c≠w.heap.size:=λc=>by
  rw[I.z c,KQ c,qP,and_assoc]
 have S:∀c,free Z r c->c<w.heap.size->free (λc=>x c/\c ∉ blocks (m++(j,p,some w.heap.size)::g)) r c/\(w.alloc f).heap[c]? = w.heap[c]? := λc C Qc=>⟨⟨(O c).2 ⟨C.1,ω⟩,C.2⟩,e c Qc⟩;have xB:∀{d v},QC Z s.h r w d v->QC (λc=>x c/\c ∉ blocks (m++(j,p,some w.heap.size)::g)) s.h r (w.alloc f) d v:=λhr=>hr.Oe S (λ_ _ _ a b=>⟨a,b⟩) (λl b q hp=>e b (I.rel.o.lt hp).1);have T:Tr s.h r w s.h r (w.alloc f):=Tr.ext I.rel.o e;refine⟨λc=>x c/\c ∉ blocks (m++(j,p,some w.heap.size)::g),?_,?_,?_,(I.marks.set Qc).same λi=>?_,λi q b h=>?_,λi q u h B=>?_,λc=>Iff.rfl,λi q b h=>?_,oa _ X8 I.Sw,λi q u h W E J M K=>?_,⟨by rw[y];simp[Act.put,I.rel.nt],by rw[y];exact I.rel.defers,λt=>?_,I.rel.o.Oe S e⟩,⟨I.since.1.trans (ER zL f),I.since.2.1.trans T,⟨λc C=>(O c).2 ⟨I.since.2.2.new c ω,ω⟩,λl c q H h0=>(O c).2 ⟨I.since.2.2.own l c q H h0,by have:=(I.rel.o.lt H).1;omega⟩⟩⟩,λi q b h=>?_⟩
 .have:=I.sched;simpa[YN] using this
 .have:=I.cover;simpa[XP] using this
 .have:=I.Og;simpa[XP] using this
 .simp only[QF,Q3,Lz];constructor
  .rintro (rfl|⟨q,b,h⟩|h)
   .exact .inl ⟨p,_,.inr (.inl rfl)⟩
   .exact .inl ⟨q,b,by have:=QcT (b:=w.heap.size) (Q3.2 (h.imp id QF.2));simpa using this⟩
   .exact .inr h
  .rintro (⟨q,b,h⟩|h)
   .rcases LB (Q3.2 (h.imp id QF.2)) with h|h
    .exact .inr (.inl ⟨q,b,by simpa using h⟩)
    .cases h;exact .inl rfl
   .exact .inr (.inr h)
 .rcases LB h with h|h
  .exact I.late i q b h
  .cases h;exact B
 .rcases LB h with h|h
  .exact I.lp i q u h B
  .cases h;exact I.lp j p none N B
 .rcases LB h with h|h
  .exact I.z0 i q b h
  .cases h;exact Sz
 .rcases LB h with h|h
  .exact I.Sx i q u h W E J M K
  .cases h;exact I.Sx j p none N W E J M K
 .by_cases U:t=d
  .have:=I.Sx j p none N B o d F y;rw[U,this];exact .cl _ _ (.undef _)
  .rw[QcQ (by rw[y];exact λh=>U (NL h).symm)];exact xB (I.rel.fr t)
 .rcases LB h with h|h
  .refine(I.LA i q b h).step T v λE J M K=>?_;exact hD i j E o J (Q i q (some b) h σ) (I.late i q b h) M F K
  .cases h;refine⟨⟨o,d,w,a.eval,v,f,F,y,Zf,rfl,Y,λhn=>?_⟩,λl q H=>?_,I.since.1.size⟩
   .have:d<a.tmps.size:=by rw[I.rel.nt];exact hn
    simp[Act.put,y,yh,this]
   .have:=(I.rel.o.lt H).1;omega
def Fb(nc:List Nat)(P:Program)(base nt:Nat)(w0:Start)(a:Array Oper)(K:St->Prop):Nat->List Nat->List Nat->St->Prop
 | 0,_,_,s=>K s
 | n+1,R,done,s=>∀i∈R,∀o,a[i]? = some o->vg done o.after.toList=false->AX P base nt w0 (Fb nc P base nt w0 a K n (R.erase i) (i::done)) [(false,qn (K8 i nc) o,guardOf a o)] s
def AS(a:Array Oper):List Nat->List Nat->Bool
 | [],_=>true
 | i::r,done=>(match a[i]? with
  | some o=>!vg done o.after.toList
  | none=>false)&&AS a r (i::done)
def oe{done b}(h:∀j∈done,j∈b):∀{l:List Edge},vg done l=false->vg b l=false
 | [],_=>rfl
 | e::r,a=>by
  simp only[vg,Db,Gv,Bool.not_eq_false']at a ⊢;exact⟨a.1.imp id λk=>xz.2 (h _ (xz.1 k)),oe h a.2⟩
def QcU{a}:∀{R done e:List Nat},(∀j∈done,j∈e)->AS a R done=true->AS a R e=true
 | [],_,_,_,_=>rfl
 | i::r,done,e,h,d=>by
  simp only[AS,ZL]at d ⊢;refine⟨?_,QcU (λj c=>by
   rcases QF.1 c with rfl|c
   .exact Kx ..
   .exact Ki _ (h j c)) d.2⟩
  have b:=d.1;cases f:a[i]? with
  | none=>rw[f]at b;cases b
  | some o=>
   rw[f]at b;simp only[zB]at b ⊢;exact oe h b
def QcV{a}{j}:∀{R done:List Nat},AS a R done=true->AS a (R.erase j) (j::done)=true
 | [],_,_=>rfl
 | i::r,done,h=>by
  simp only[AS,ZL]at h;by_cases d:i=j
  .subst d;rw[List.erase_cons_head];exact h.2
  .rw[List.erase_cons_tail (by simpa using d)];simp only[AS,ZL];refine⟨?_,QcU (λk b=>?_) (QcV (j:=j) h.2)⟩
   .have h1:=h.1;cases c:a[i]? with
    | none=>rw[c]at h1;cases h1
    | some o=>
     rw[c]at h1;simp only[zB]at h1 ⊢;exact oe (λk b=>Ki _ b) h1
   .simp only[QF]at b ⊢;rcases b with h1|h1|h1
    .exact .inr (.inl h1)
    .exact .inl h1
    .exact .inr (.inr h1)
def Qos{c:Array Oper}(W:base<=w0.w.heap.size){F}{Z}{i}{o}(u:c[i]? = some o){s:St}{k}{a}{w}(r:Rel Z base nt s k a w)(b:Vg Z base w0 s.h k w)
  (h:AX P base nt w0 F [(false,qn (K8 i nc) o,guardOf c o)] s):wpOp P c (λ_ _ _=>False) i (λm f=>xA nc c i w f/\∃g j,F g/\Rel Z base nt g j m f/\Vg Z base w0 g.h j f) a w:=by
 have skip:∀(e:St),e.h=s.h->Rel Z base nt e k a w->XA (guardOf c o) a.tmps=false->Zn nt (qn (K8 i nc) o).dst=true->F ⟨Zg e.fr (qn (K8 i nc) o).dst (.raw Go.undef),e.h⟩->_:=λe H z B N E=>by
  have n:YieldsIf P c (λ_:World=>True) o Go.undef a:=.inr ⟨by rw[N4];exact B,rfl⟩;have V:Rel Z base nt ⟨Zg e.fr o.dst (.raw Go.undef),e.h⟩ k (a.put o.dst Go.undef) w:=z.skip N;exact n.wpOp (P:=P) (Q:=λ_ _ _=>False) (K:=λm f=>xA nc c i w f/\∃g j,F g/\Rel Z base nt g j m f/\Vg Z base w0 g.h j f) u trivial ⟨by rw[Lw u];exact .ext (Ext.refl _),_,k,E,V,by rw[show (⟨Zg e.fr o.dst (.raw Go.undef),e.h⟩:St).h=s.h from H];exact b⟩
 have J:∀(e:St),e.h=s.h->Rel Z base nt e k a w->XA (guardOf c o) a.tmps=true->Xq P base nt w0 false (qn (K8 i nc) o) F e->wpOp P c (λ_ _ _=>False) i (λm f=>xA nc c i w f/\∃g j,F g/\Rel Z base nt g j m f/\Vg Z base w0 g.h j f) a w:=λe H z B E=>by
  unfold wpOp;simp only[u,N4,B,Vp];refine .inl ?_;have:=E.ae W Z trivial k a w z (by rw[H];exact b);rw[QcN]at this;refine Oper.wp_mono (λm f O=>?_) this;obtain⟨R,d,h',j,v,S,M,U,T,rfl⟩:=O;exact⟨by rw[Lw u];exact R,_,j,S,M,U⟩
 simp only[AX]at h;split at h
 .rename_i l;exact J s rfl r (by rw[l];rfl) h
 .rename_i x l;exact skip s rfl r (by rw[l];rfl) h.1 h.2
 .rename_i t x l;split at h
  .rename_i y n;have p:=r.fr t;rw[n]at p;have C:=Jt p;have I:=nU C;by_cases q:y=x
   .refine J ⟨put s.fr t (.raw (.bool x)),s.h⟩ rfl (r.tell (t:=t) (d:=.raw (.bool x)) (by rw[C,q];exact .cl _ _ (.raw _))) ?_ (h.1 q);rw[l];simp[XA,I,q]
   .have L:y=(!x):=by cases x<;>cases y<;>simp_all
    have:=h.2 L;refine skip ⟨put s.fr t (.raw (.bool !x)),s.h⟩ rfl (r.tell (t:=t) (d:=.raw (.bool (!x))) (by rw[C,L];exact .cl _ _ (.raw _))) ?_ this.1 this.2;rw[l];simp[XA,I,q]
  .rename_i Y n;have p:=r.fr t;rw[n]at p;refine skip s rfl r ?_ h.1 h.2;rw[l];simp[XA,nV (Jt p)]
  .exact h.elim
def og{c:Array Oper}{K}(J:base<=w0.w.heap.size){Z}:∀(n:Nat) (R done:List Nat) (l:Array Bool) (s:St) (f:List Pl) (a:Act) (w:World),R.length=n->Marks c l done->(∀j,j<c.size->j ∉ done->j∈R)->(∀j∈R,j ∉ done)->R.Nodup->AS c R done=true ->
  Rel Z base nt s f a w->Vg Z base w0 s.h f w->Fb nc P base nt w0 c K n R done s->AR P c (λa w=>∃s f,K s/\Rel Z base nt s f a w/\Vg Z base w0 s.h f w) (xA nc c) n l a w
 | 0,R,done,l,s,f,a,w,t,M,y,B,C,q,r,b,h=>by
  have:R=[]:=RK.1 t;subst this;refine⟨mK.2 λj m=>?_,s,f,h,r,b⟩;obtain⟨g,o,d,_⟩:=mem_ready.1 m;have Qc:=(WL.1 d).1;have:=y j Qc ((M.get j Qc).1 g);cases this
 | n+1,R,done,l,s,f,a,w,t,M,y,B,C,q,r,b,h=>by
  have ready:∀j o,c[j]? = some o->j ∉ done->vg done o.after.toList=false->j∈Region.ready .any c l:=λj o d m v=>by
   have Qc:=(WL.1 d).1;exact mem_ready.2 ⟨(M.get j Qc).2 m,o,d,λe x z=>(M.get' e.on).2 ⟨dH v e (by simpa using x) z,M.lt _ (dH v e (by simpa using x) z)⟩⟩
  refine⟨λe=>?_,λj m=>?_⟩
  .cases R with
   | nil=>cases t
   | cons i rr=>
    simp only[AS,ZL]at q;have g:=q.1;split at g
    .rename_i o d;have:=ready i o d (B i (Kx ..)) (by simpa using g);rw[e]at this;cases this
    .cases g
  .obtain⟨g,o,d,Kr⟩:=mem_ready.1 m;have Qc:=(WL.1 d).1;have F:=(M.get j Qc).1 g;have I:=y j Qc F;have v:vg done o.after.toList=false:=by
    cases z:vg done o.after.toList
    .rfl
    .obtain⟨e,x,H,Fa⟩:=QcK z;exact absurd ((M.get' e.on).1 (Kr e (by simpa using x) H)).1 Fa
   refine wpOp_mono (λW L U=>?_) (Qos J d r b (h j I o d v));obtain⟨T,N,Y,Q,O,V⟩:=U;refine⟨T,og J n (R.erase j) (j::done) (l.setIfInBounds j true) N Y W L (by rw[List.length_erase_of_mem I,t];rfl) (M.set Qc) (λk u p=>?_) (λk u p=>?_) (C.erase _) (QcV q) O V Q⟩
   .simp only[QF,qP]at p;exact(List.mem_erase_of_ne p.1).2 (y k u p.2)
   .have E:=List.mem_of_mem_erase u;rcases QF.1 p with rfl|S
    .exact(C.not_mem_erase) u
    .exact B k E S
def Qow{L}(b0:Z9 P L){c:Array Oper}{R U:List Nat}{K}(Oa:Region.noSelect c=true)(Q5:base<=w0.w.heap.size)(hD:Sy c)(hL:∀j o,c[j]? = some o->WB c j=true->(∃ob mk,Ha P o ob mk)/\∃d,o.dst=some d){H}(a2:R.Nodup)(a1:AS c R U=true):
  ∀(m:Nat) (l:List En) (done:List Nat) (E:Array Bool) (s:St) (g:List Pl) (a:Act) (w:World) (Z:Nat->Prop),l.length+YO l<=m->yy nc P L c R base nt w0 H Z l done E s g a w->(∀j,j∈U↔j∈XP l\/j∈done)->AX P base nt w0 (Fb nc P base nt w0 c K R.length R U) (VO nc c (YN l)) s ->
   AR P c (λa w=>∃s g,K s/\Rel H base nt s g a w/\Vg H base w0 s.h g w) (xA nc c) (R.length+YO l) E a w:=by
 intro m;induction m with
 | zero=>
  intro l done E s g a w Z Y I SA h;cases l with
  | cons x r=>simp at Y
  | nil=>
   have hZ:Z=H:=funext λb=>propext (by rw[I.z b];simp[blocks]);subst hZ;have LC:∀j,j∈U↔j∈done:=λj=>by rw[SA j];simp[XP]
   refine og Q5 R.length R U E s g a w rfl (I.marks.same λj=>by rw[LC j];simp[early]) (λj B C=>?_) (λj B=>by rw[LC j];exact(I.Og j B).1) a2 a1 I.rel I.since h;have:=I.cover j B (λh=>C ((LC j).2 h));simpa[XP] using this
 | succ m ih=>
  intro l done E s g a w Z Y I SA h;cases l with
  | nil=>
   have hZ:Z=H:=funext λb=>propext (by rw[I.z b];simp[blocks]);subst hZ;have LC:∀j,j∈U↔j∈done:=λj=>by rw[SA j];simp[XP]
   refine og Q5 R.length R U E s g a w rfl (I.marks.same λj=>by rw[LC j];simp[early]) (λj B C=>?_) (λj B=>by rw[LC j];exact(I.Og j B).1) a2 a1 I.rel I.since h;have:=I.cover j B (λh=>C ((LC j).2 h));simpa[XP] using this
  | cons x r=>
   obtain⟨i,p,q⟩:=x;obtain⟨o,J,Jb,a3,a9,a8,AF⟩:=I.head;have Qc:=(WL.1 J).1;have zN:VO nc c (YN ((i,p,q)::r))=(p,qn (K8 i nc) o,guardOf c o)::VO nc c (YN r):=by simp[VO,YN,J]
   rw[zN]at h;have E9:∀j∈early ((i,p,q)::r),WB c j=true:=λj B=>by obtain⟨p',b,S⟩:=Lz.1 B;exact I.late j p' b S
   have QA:∀j p q,(j,p,q)∈r->j≠i:=λj p q B e=>dK AF j (od B) (by rw[e];simp);have dS:∀j,j∈U↔j∈XP r\/j∈i::done:=λj=>by
    rw[SA j];simp only[XP,JQ,QF];constructor
    .rintro ((h|h)|h)
     .exact .inr (.inl h)
     .exact .inl h
     .exact .inr (.inr h)
    .rintro (h|h|h)
     .exact .inl (.inr h)
     .exact .inl (.inl h)
     .exact .inr h
   cases q with
   | some b=>
    have Oh:=I.late i p b (Kx ..);obtain⟨g1,g2,_⟩:=dL J Oh;have hp:=I.lp i p _ (Kx ..) Oh;subst hp;have hg:guardOf c o=none:=by simp[guardOf,g2]
    rw[hg]at h;simp only[AX,Xq]at h;rw[show qV (qn (K8 i nc) o)=true from g1]at h;obtain⟨ob,mk,h1,h2,h3⟩:=h;obtain⟨Z',I'⟩:=I.n8 hD Q5 J (show Ha P o ob mk from h1) h2;have:=ih r (i::done) E _ _ a w Z' (by simp only[Vo,YO]at Y;omega) I' dS h3;exact this
   | none=>
    have oh:i ∉ early ((i,p,none)::r)++done:=λY=>by
     rcases Q3.1 Y with h1|h1
     .obtain⟨p',b,S⟩:=Lz.1 h1;rcases QF.1 S with h2|h2
      .cases h2
      .exact QA _ _ _ h2 rfl
     .exact Jb h1
    have oq:i∈Region.ready .any c E:=mem_ready.2 ⟨(I.marks.get i Qc).2 oh,o,J,λe u S=>(I.marks.get' e.on).2 ⟨Q3.2 (.inr (a3 e u S)),I.marks.lt _ (Q3.2 (.inr (a3 e u S)))⟩⟩;have NU:r.length+YO r<=m:=by simp only[Vo,YO]at Y;omega
    have first:p=true->∀(f:St) (v:Value),f.h=s.h->YieldsIf P c (λn=>(still L o=true\/Ext w n)\/(Dx o=true/\jO w n)) o v a ->
      Rel Z base nt f g (a.put o.dst v) w->(∀d,o.dst≠some d->get s.fr d=.undef->get f.fr d=.undef)->AX P base nt w0 (Fb nc P base nt w0 c K R.length R U) (VO nc c (YN r)) f->AR P c (λa w=>∃s g,K s/\Rel H base nt s g a w/\Vg H base w0 s.h g w) (xA nc c) (R.length+YO r+1) E a w:=by
     intro hp f v hh O W hu Q;have I':=I.next hD J v (s':=f) (by rw[hh];exact Tr.refl _ _ _) W (by rw[hh];exact I.since) hu;have dU:=ih r (i::done) (E.setIfInBounds i true) f g (a.put o.dst v) w Z NU I' dS Q;refine Qol (λw=>by rw[Lw J];exact .ext (Ext.refl _)) J (Region.noSelect_spec Oa) _ E a w (.inl (.inr (Ext.refl _))) (λj oj B wy a6=>?_) oq O dU;have SB:=(WL.1 B).1;have SC:=(I.marks.get j SB).1 a6;have SD:=I.cover j SB λC=>SC (Q3.2 (.inr C));simp only[XP,JQ,QF]at SD;have Wt:∃y∈(YN r).map (λN=>(N.1,N.2,c[N.1]?))++Lx c R,y.1=j/\y.2.2=c[j]? := by
      rcases SD with (h|h)|h
      .exact absurd h wy
      .obtain⟨y,jo,jS⟩:=Jl.1 h;exact⟨(y.1,y.2.1,c[y.1]?),Q3.2 (.inl (Jl.2 ⟨(y.1,y.2.1),Jl.2 ⟨y,jo,rfl⟩,rfl⟩)),jS,by rw[jS]⟩
      .exact⟨(j,false,c[j]?),Q3.2 (.inr (Jl.2 ⟨j,h,rfl⟩)),rfl,rfl⟩
     obtain⟨y,jo,jS,b2⟩:=Wt;have:=QcR I.marks E9 (r:=(YN r).map (λN=>(N.1,N.2,c[N.1]?))++Lx c R) (λx hx=>by
      rcases Q3.1 hx with hx|hx
      .obtain⟨z,_,rfl⟩:=Jl.1 hx;rfl
      .obtain⟨z,_,rfl⟩:=Jl.1 hx;rfl) (a9 hp).2 y jo oj (by rw[jS];exact B)
     rw[jS]at this;refine this.imp id λh=>⟨λw1 w2 hc hs=>?_,h.2⟩;rw[Lw B]at hc;rcases h.1 with (h1|h1)|h1
     .have u:=hc.calm (by rw[Qon];simp[h1.1,h1.2]);rcases hs with (hs|hs)|hs
      .exact .inl (.inl hs)
      .exact .inl (.inr (hs.trans u))
      .exact .inr ⟨hs.1,hs.2.trans (.ext u)⟩
     .exact .inl (.inl h1)
     .have u:=hc.ins (by simpa[Dy,qn] using h1.2);rcases hs with (hs|hs)|hs
      .exact .inl (.inl hs)
      .exact .inr ⟨h1.1,(jO.ext hs).trans u⟩
      .exact .inr ⟨hs.1,hs.2.trans u⟩
    have V:p=false->wpOp P c (λ_ _ _=>False) i (λa' n=>xA nc c i w n/\AR P c (λa w=>∃s g,K s/\Rel H base nt s g a w/\Vg H base w0 s.h g w) (xA nc c) (R.length+YO r) (E.setIfInBounds i true) a' n) a w ->
      AR P c (λa w=>∃s g,K s/\Rel H base nt s g a w/\Vg H base w0 s.h g w) (xA nc c) (R.length+YO r+1) E a w:=by
     intro hp hi;refine⟨λe=>(by rw[e]at oq;cases oq),λj B=>?_⟩;by_cases wy:j=i
     .subst wy;exact hi
     .obtain⟨dD,oj,KR,Kr⟩:=mem_ready.1 B;have SB:=(WL.1 KR).1;have SC:=(I.marks.get j SB).1 dD;have SD:=I.cover j SB λC=>SC (Q3.2 (.inr C));simp only[XP,JQ,QF]at SD;have a4:=λx hx=>QcP (r:=(YN r).map (λN=>(N.1,N.2,c[N.1]?))++Lx c R) (λx hx=>by
       rcases Q3.1 hx with hx|hx
       .obtain⟨z,_,rfl⟩:=Jl.1 hx;rfl
       .obtain⟨z,_,rfl⟩:=Jl.1 hx;rfl) (a8 hp) x hx
      have a0:Of c done i oj.after.toList=true->False:=λh1=>by
       obtain⟨e,u,S,Fa,Fc⟩:=QcO h1;have h2:=((I.marks.get' e.on).1 (Kr e (by simpa using u) S)).1;rcases Q3.1 h2 with h3|h3
       .rcases Fc with h4|h4
        .rw[E9 _ h3]at h4;cases h4
        .exact oh (Q3.2 (.inl (by rw[<- h4];exact h3)))
       .exact Fa h3
      have dQ:j ∉ R:=λh=>by
       rcases a4 (j,false,c[j]?) (Q3.2 (.inr (Jl.2 ⟨j,h,rfl⟩))) oj KR with h1|h1
       .have h9:WB c j=true:=h1;rw[(I.Og j h).2.2]at h9;cases h9
       .exact a0 h1
      obtain⟨y,jo,jS⟩:=Jl.1 ((SD.resolve_right dQ).resolve_left wy);obtain⟨M,pj,qj⟩:=y;obtain rfl:M=j:=jS;have a7:qj=none:=by
       cases qj with
       | none=>rfl
       | some b=>exact absurd (Q3.2 (.inl (Lz.2 ⟨pj,b,Ki _ jo⟩))) SC
      subst a7;have ot:WB c M=true:=by
       rcases a4 (M,pj,c[M]?) (Q3.2 (.inl (Jl.2 ⟨(M,pj),Jl.2 ⟨_,jo,rfl⟩,rfl⟩))) oj KR with h1|h1
       .exact h1
       .exact(a0 h1).elim
      obtain⟨g1,g2,_⟩:=dL KR ot;obtain⟨⟨ob,mk,obj,a5,k1,_⟩,d,C⟩:=hL M oj KR ot;obtain⟨F,r2,W⟩:=List.append_of_mem jo;have hl:(i,p,none)::r=((i,p,none)::F)++(M,pj,none)::r2:=by rw[W];rfl
      have I0:=I;rw[hl]at I0;obtain⟨Z',I'⟩:=I0.exec hD Q5 KR ot C (k1 a.eval w) (λi' p' q' Y hq e=>by
       subst e;rw[<- hl]at Y;cases q' with
       | none=>exact hq rfl
       | some b=>exact SC (Q3.2 (.inl (Lz.2 ⟨p',b,Y⟩))))
      have hc:YO r=YO (((i,p,none)::F)++(M,pj,some w.heap.size)::r2):=by
       have:=n9 (j:=M) (p:=pj) (b:=w.heap.size) (l2:=r2) ((i,p,none)::F);rw[<- hl]at this;simp only[YO]at this;omega
      have ou:YN (((i,p,none)::F)++(M,pj,some w.heap.size)::r2)=YN ((i,p,none)::r):=by rw[hl];simp[YN]
      have dU:=ih _ done (E.setIfInBounds M true) s g (a.put oj.dst (a5 w.heap.size)) (w.alloc obj) Z' (by
       have h1:(((i,p,none)::F)++(M,pj,some w.heap.size)::r2).length=r.length+1:=by rw[W];simp
       have h2:r.length+1+(YO r+1)<=m+1:=Y;rw[h1,<- hc];omega) I' (λk=>by rw[SA k];rw[hl];simp[XP]) (by rw[ou,zN];exact h)
      rw[<- hc]at dU;unfold wpOp;simp only[KR];have hw:Region.wanted oj (yielded c a.tmps)=true:=by simp[Region.wanted,g2]
      rw[Qe hw];refine .inl ?_;unfold Oper.wp;rw[k1 a.eval w];simp only[Oper.upon_value];exact⟨by rw[Lw KR];exact .ext λk Q=>xq w obj k Q,dU⟩
    have skip:∀(f:St),f.h=s.h->Rel Z base nt f g a w->(∀d,get s.fr d=.undef->get f.fr d=.undef)->XA (guardOf c o) a.tmps=false->Zn nt (qn (K8 i nc) o).dst=true->AX P base nt w0 (Fb nc P base nt w0 c K R.length R U) (VO nc c (YN r)) ⟨Zg f.fr (qn (K8 i nc) o).dst (.raw Go.undef),f.h⟩ ->
      AR P c (λa w=>∃s g,K s/\Rel H base nt s g a w/\Vg H base w0 s.h g w) (xA nc c) (R.length+YO r+1) E a w:=by
     intro f hh F hu hw ht Q;have O:YieldsIf P c (λn=>(still L o=true\/Ext w n)\/(Dx o=true/\jO w n)) o Go.undef a:=.inr ⟨by rw[N4];exact hw,rfl⟩;have Zy:Rel Z base nt ⟨Zg f.fr o.dst (.raw Go.undef),f.h⟩ g (a.put o.dst Go.undef) w:=F.skip ht;have yz:∀d,o.dst≠some d->get s.fr d=.undef->get (Zg f.fr o.dst (.raw Go.undef)) d=.undef:=λd C h=>by rw[dJ C];exact hu d h
     cases p with
     | true=>exact first rfl ⟨Zg f.fr o.dst (.raw Go.undef),f.h⟩ Go.undef hh O Zy yz Q
     | false=>
      refine V rfl (O.wpOp J (.inl (.inr (Ext.refl _))) ⟨by rw[Lw J];exact .ext (Ext.refl _),?_⟩);have I':=I.next hD J Go.undef (s':=⟨Zg f.fr o.dst (.raw Go.undef),f.h⟩) (by rw[show (⟨Zg f.fr o.dst (.raw Go.undef),f.h⟩:St).h=s.h from hh];exact Tr.refl _ _ _) Zy (by rw[show (⟨Zg f.fr o.dst (.raw Go.undef),f.h⟩:St).h=s.h from hh];exact I.since) yz;exact ih r (i::done) _ _ g _ w Z NU I' dS Q
    have go:∀(f:St),f.h=s.h->Rel Z base nt f g a w->(∀d,get s.fr d=.undef->get f.fr d=.undef)->XA (guardOf c o) a.tmps=true->Xq P base nt w0 p (qn (K8 i nc) o) (AX P base nt w0 (Fb nc P base nt w0 c K R.length R U) (VO nc c (YN r))) f ->
      AR P c (λa w=>∃s g,K s/\Rel H base nt s g a w/\Vg H base w0 s.h g w) (xA nc c) (R.length+YO r+1) E a w:=by
     intro f hh F hu hw Q;cases p with
     | true=>
      obtain⟨d,cz,jW,ht,Q⟩:=Q;have Kr:∃v,QC Z f.h g w d v/\(∀n:World,(∀b,b<w.heap.size->n.heap[b]? = w.heap[b]?)->(execOp a.eval o).run P n=.ok (.value v) n)/\(Dx o=true->∀n:World,jO w n->(execOp a.eval o).run P n=.ok (.value v) n):=by
       cases SE:Dx o
       .obtain⟨v,hv,Zf⟩:=cz Z g a w F;exact⟨v,hv,Zf,λh=>by cases h⟩
       .obtain⟨v,hv,Zf⟩:=jW (by simpa[Dx,qn] using SE) Z g a w F;exact⟨v,hv,λn u=>Zf n (.ext u),λ_=>Zf⟩
      obtain⟨v,hv,Zf,b1⟩:=Kr;have O:YieldsIf P c (λn=>(still L o=true\/Ext w n)\/(Dx o=true/\jO w n)) o v a:=.inl ⟨by rw[N4];exact hw,λn u=>u.elim (λu=>u.elim (λhs=>Qok b0 hs (Zf w λ_ _=>rfl) n) (λu=>Zf n u)) (λu=>b1 u.1 n u.2)⟩;have r2:Rel Z base nt ⟨Zg f.fr o.dst d,f.h⟩ g (a.put o.dst v) w:=by
       cases C:o.dst with
       | none=>exact F
       | some t=>have ht:Zn nt o.dst=true:=ht;rw[C]at ht;exact F.to (Tr.ext F.o λ_ _=>rfl) F.o (kZ ht) hv
      exact first rfl ⟨Zg f.fr o.dst d,f.h⟩ v hh O r2 (λd' C h=>by rw[dJ C];exact hu d' h) Q
     | false=>
      refine V rfl ?_;unfold wpOp;simp only[J,N4,hw,Vp];refine .inl ?_;have:=Q.ae Q5 Z trivial g a w F (by rw[hh];exact I.since);rw[QcN]at this;refine Oper.wp_mono (λa' n hq=>?_) this;obtain⟨u,d,h',Qj,v,hF,r',b',T,rfl⟩:=hq;refine⟨by rw[Lw J];exact u,?_⟩;have I':=I.next hD J v (s':=⟨Zg f.fr o.dst d,h'⟩) (by rw[hh]at T;exact T) r' b' (λd' C h=>by rw[dJ C];exact hu d' h);exact ih r (i::done) _ _ Qj _ n Z NU I' dS hF
    show AR P c _ (xA nc c) (R.length+YO r+1) E a w;simp only[AX]at h;split at h
    .rename_i hg;exact go s rfl I.rel (λ_ h=>h) (by rw[hg];rfl) h
    .rename_i x hg;exact skip s rfl I.rel (λ_ h=>h) (by rw[hg];rfl) h.1 h.2
    .rename_i t x hg;split at h
     .rename_i y O;have W:=I.rel.fr t;rw[O]at W;have hv:=Jt W;have S:=nU hv;have zM:∀(e:D) d,get s.fr d=.undef->get (put s.fr t e) d=.undef:=λe d h=>by
       rw[EM,Qd (λe=>by rw[e,O]at h;cases h)];exact h
      by_cases wj:y=x
      .refine go ⟨put s.fr t (.raw (.bool x)),s.h⟩ rfl (I.rel.tell (t:=t) (d:=.raw (.bool x)) (by rw[hv,wj];exact .cl _ _ (.raw _))) (zM _) ?_ (h.1 wj);rw[hg];simp[XA,S,wj]
      .have G2:y=(!x):=by cases x<;>cases y<;>simp_all
       have:=h.2 G2;refine skip ⟨put s.fr t (.raw (.bool !x)),s.h⟩ rfl (I.rel.tell (t:=t) (d:=.raw (.bool (!x))) (by rw[hv,G2];exact .cl _ _ (.raw _))) (zM _) ?_ this.1 this.2;rw[hg];simp[XA,S,wj]
     .rename_i vs O;have W:=I.rel.fr t;rw[O]at W;refine skip s rfl I.rel (λ_ h=>h) ?_ h.1 h.2;rw[hg];simp[XA,nV (Jt W)]
     .exact h.elim
def Qc1:Option Nat->Option Nat->Bool
 | some a,some b=>!Nat.beq a b
 | _,_=>true
def Qc2(a:Array Oper):Bool:=(List.range a.size).all λi=>!WB a i || (List.range a.size).all λj=>Nat.beq i j || Qc1 ((a[i]?).bind (·.dst)) ((a[j]?).bind (·.dst))
def Qc3:D->Bool
 | .undef=>true
 | _=>false
def B3(a:Array Oper)(b:List (Nat × D)):Bool:=(List.range a.size).all λi=>!WB a i || (match (a[i]?).bind (·.dst) with|some d=>Qc3 (get b d)|none=>true)
def Qc4(L:Je)(a:Array Oper):Bool:=a.toList.all λo=>match o.op with
 | .alloc t=>(ty L t).isSome&&o.dst.isSome
 | .makeMap _ none=>o.dst.isSome
 | _=>true
def dV(a:Array Oper)(l:List (Nat × Bool)):List Nat->Bool
 | []=>true
 | i::r=>!K8 i r&&!K8 i (l.map (·.1))&&!WB a i&&dV a l r
def dW{a}{l:List (Nat × Bool)}:∀{R:List Nat},dV a l R=true->R.Nodup/\∀i∈R,i ∉ l.map (·.1)/\WB a i=false
 | [],_=>⟨List.nodup_nil,σ⟩
 | i::r,h=>by
  simp only[dV,ZL,zB]at h;obtain⟨⟨⟨e,d⟩,m⟩,k⟩:=h;obtain⟨g,f⟩:=dW k;refine⟨ZY.2 ⟨λb=>(by rw[xz.2 b]at e;cases e),g⟩,λj c=>?_⟩;rcases QF.1 c with rfl|c
  .exact⟨λb=>(by rw[xz.2 b]at d;cases d),m⟩
  .exact f j c
def DB(nc:List Nat)(L:Je)(a:Array Oper)(l:List (Nat × Bool))(R:List Nat):Bool:=Region.noSelect a&&Nat.beq (R.length+l.length) a.size&&dG (l.map (·.1)++R) a.size&&E7 nc L a R (l.map λb=>(b.1,b.2,a[b.1]?)) []&&Qc2 a&&Qc4 L a&&dV a l R&&AS a R (l.map (·.1))
def dX(L:Je)(a:Array Oper)(l:List (Nat × Bool)):Bool:=DB [] L a l []
def QoD{a}(h:Qc2 a=true):Sy a:=by
 intro i j o n d m k e c l b;have g:=zC.1 h i (RL.2 (WL.1 e).1);rw[k,Da,IA]at g;have f:=zC.1 g j (RL.2 (WL.1 c).1);simp only[e,c,bD,l,b,Qc1,NF,Da,Bool.or_false,Wo]at f;exact m f
def QoF{a:Array Oper}{e}(h:B3 a e=true):∀i o d,WB a i=true->a[i]? = some o->o.dst=some d->get e d=.undef:=by
 intro i o d f c g;have b:=zC.1 h i (RL.2 (WL.1 c).1);rw[f]at b;simp only[Da,IA,c,bD,g]at b;unfold Qc3 at b;split at b
 .assumption
 .cases b
def QoG{P}{L}(n:Z9 P L){a:Array Oper}(h:Qc4 L a=true):∀j o,a[j]? = some o->WB a j=true->(∃i mk,Ha P o i mk)/\∃d,o.dst=some d:=by
 intro j o f m;have c:=(dL f m).1;have l:o∈a.toList:=by have:=Array.mem_of_getElem? f;simpa using this
 have b:=zC.1 h o l;unfold qV at c;cases e:o.op<;>rw[e]at c b<;>first|cases c|skip
 .rename_i t;simp only[ZL]at b;obtain⟨y,k⟩:=EK.1 b.1;exact⟨⟨_,_,QcL n e k⟩,EK.1 b.2⟩
 .rename_i t g;cases g with
  | some x=>cases c
  | none=>exact⟨⟨_,_,QcM e .i64⟩,EK.1 b⟩
def Qc5{L}{a:Array Oper}{R}:∀{l:List (Nat × Bool)} {done:List Nat},E7 nc L a R (l.map λb=>(b.1,b.2,a[b.1]?)) done=true->∀i p,(i,p)∈l->WB a i=true->p=false
 | [],_,_,_,_,h,_=>by cases h
 | (j,q)::r,done,h,i,p,e,d=>by
  simp only[JQ]at h;cases c:a[j]? with
  | none=>rw[c]at h;cases h
  | some o=>
   rw[c]at h;simp only[E7,ZL,zB]at h;rcases QF.1 e with h1|h1
   .cases h1;cases q with
    | false=>rfl
    | true=>have:=h.1.2;simp only[ZL,zB,d]at this;cases this.1
   .exact Qc5 h.2 i p h1 d
def B4(l:List (Nat × Bool)):List En:=l.map λx=>(x.1,x.2,none)
def ov:∀l:List (Nat × Bool),YN (B4 l)=l
 | []=>rfl
 | x::r=>congrArg (x::·) (ov r)
def Qc6:∀l,early (B4 l)=[]
 | []=>rfl
 | (_,_)::r=>Qc6 r
def ox:∀l,blocks (B4 l)=[]
 | []=>rfl
 | (_,_)::r=>ox r
def Qc7:∀l,YO (B4 l)=l.length
 | []=>rfl
 | (_,_)::r=>by show YO (B4 r)+1=_;rw[Qc7 r];rfl
def dY{l}{i}{p}{q}(h:(i,p,q)∈B4 l):(i,p)∈l/\q=none:=by
 obtain⟨x,hx,e⟩:=Jl.1 h;cases e;exact⟨hx,rfl⟩
def Qc8{L}(n:Z9 P L)(W:base<=w0.w.heap.size){x}{c}{Q}{s:St}(C:P.follows .mixedOrders=true)(l:List (Nat × Bool))(R:List Nat)(t:DB nc L c l R=true)(F:B3 c s.fr=true)(h:AX P base nt w0 (Fb nc P base nt w0 c (λs=>Q .normal s) R.length R (l.map (·.1))) (VO nc c l) s):A P base nt w0 (.region x c true) Q s:=by
 intro Z z g a w r b;simp only[DB,ZL]at t;obtain⟨⟨⟨⟨⟨⟨⟨U,T⟩,S⟩,v⟩,O⟩,N⟩,K⟩,J⟩:=t;obtain⟨H,u⟩:=dW K;have f:=RO T;have M:Marks c (Array.replicate c.size false) []:=⟨σ,λj e=>by simp[e],λj=>by
  rcases xn j c.size with m|m
  .simp[m]
  .simp[m],λj e=>by cases e⟩
 have V:Vg Z base w0 s.h g { w with drawn:=w.drawn+1 }:=⟨⟨b.1.os,b.1.tape,b.1.output,b.1.size,b.1.block⟩,⟨b.2.1.Ko,b.2.1.obj,b.2.1.shape⟩,⟨b.2.2.new,b.2.2.own⟩⟩;have I:yy nc P L c R base nt w0 Z Z (B4 l) [] (Array.replicate c.size false) s g a { w with drawn:=w.drawn+1 }:=by
  refine⟨by rw[ov];exact v,λj e _=>?_,λj e=>⟨σ,by have:=(u j e).1;simpa[XP,B4] using this,(u j e).2⟩,by rw[Qc6];exact M,λi p b h=>?_,λi p q h k=>Qc5 v i p (dY h).1 k,λb=>by rw[ox];simp,λi p b h=>?_,by rw[ox];exact List.nodup_nil,λi p q h k o d y E=>QoF F i o d k y E,r.ext λ_ _=>rfl,V,λi p b h=>?_⟩
  .have:=QcI S j e;simpa[XP,B4] using this
  .cases (dY h).2
  .cases (dY h).2
  .cases (dY h).2
 have:=Qow n U W (QoD O) (QoG n N) H J _ (B4 l) [] _ s g a _ Z (QB _) I (λj=>by simp[XP,B4]) (by rw[ov];exact h);rw[Qc7,f]at this;exact wp_region_any C (dC (λa w B=>B) _ _ _ _ this)
def QoH{L}(e:Z9 P L)(g:base<=w0.w.heap.size){b}{a}{Q}{s:St}(c:P.follows .mixedOrders=true)(l)(f:dX L a l=true)(d:B3 a s.fr=true)(h:AX P base nt w0 (λs=>Q .normal s) (VO [] a l) s):A P base nt w0 (.region b a true) Q s:=
 Qc8 e g c l [] f d h
def QoI{L}(e:Z9 P L)(g:base<=w0.w.heap.size){b}{a}{Q}{k}{s:St}(c:P.follows .mixedOrders=true)(l)(f:dX L a l=true)(d:B3 a s.fr=true)(h:AX P base nt w0 (λs=>Qw P base nt w0 Q k .normal s) (VO [] a l) s):Qw P base nt w0 Q (.code (.region b a true)::k) .normal s:=by
 simp only[Qw];exact QoH e g c l f d h
def Qc9{L}(e:Z9 P L)(g:base<=w0.w.heap.size){b}{a}{Q}{k}{s:St}(c:P.follows .mixedOrders=true)(l:List (Nat × Bool))(R:List Nat)(f:DB nc L a l R=true)(d:B3 a s.fr=true)(h:AX P base nt w0 (Fb nc P base nt w0 a (λs=>Qw P base nt w0 Q k .normal s) R.length R (l.map (·.1))) (VO nc a l) s):Qw P base nt w0 Q (.code (.region b a true)::k) .normal s:=by
 simp only[Qw];exact Qc8 e g c l R f d h
end
section
variable (P:Program)(base:Nat)(w0:Start)(X:Cx)(nt:Nat)
def LD(a:Bool)(o:Oper)(F:St->Prop)(stop:Prop)(s:St):Prop:=match yw X s o.op with
 | some (p,d)=>p/\Zn nt o.dst=true/\F ⟨Zg s.fr o.dst d,s.h⟩
 | none=>match a with
  | true=>False
  | false=>match AO X s o.op with
   | some (p,h,d)=>p/\Zn nt o.dst=true/\F ⟨Zg s.fr o.dst d,h⟩
   | none=>stop
def AT(K:St->Prop):List (Bool × Oper × G)->St->Prop
 | [],s=>K s
 | (a,o,g)::r,s=>match g with
  | none=>LD X nt a o (AT K r) (AX P base nt w0 K ((a,o,none)::r) s) s
  | some (none,_)=>Zn nt o.dst=true/\AT K r ⟨Zg s.fr o.dst (.raw Go.undef),s.h⟩
  | some (some t,b)=>match get s.fr t with
   | .raw (.bool x)=>(EX b x=true->LD X nt a o (AT K r) (AX P base nt w0 K ((a,o,none)::r) ⟨put s.fr t (.raw (.bool b)),s.h⟩) ⟨put s.fr t (.raw (.bool b)),s.h⟩) /\
     (EX b x=false->Zn nt o.dst=true/\AT K r ⟨Zg (put s.fr t (.raw (.bool (!b)))) o.dst (.raw Go.undef),s.h⟩)
   | .raw (.tuple _)=>Zn nt o.dst=true/\AT K r ⟨Zg s.fr o.dst (.raw Go.undef),s.h⟩
   | _=>False
end
section
variable {nc:List Nat}{P:Program}{base nt:Nat}{w0:Start}
def QoJ{X}(E:qU P X)(Q5:base<=w0.w.heap.size){n}{o}{F M}{stop}{s}(R:∀s,F s->M s)(N:stop->Xq P base nt w0 n o M s)(h:LD X nt n o F stop s):Xq P base nt w0 n o M s:=by
 unfold LD at h;split at h
 .rename_i p d c;have C:=Qct (P:=P) (base:=base) (nt:=nt) E c h.1;have i:=R _ h.2.2;cases n with
  | true=>
   refine⟨d,C,λK=>?_,h.2.1,i⟩;unfold Dx at K;split at K
   .rename_i t x e;simp only[yw,e]at c;exact QbH E.L e c h.1
   .cases K
  | false=>
   have f:qV o=false:=by
    cases f:qV o with
    | false=>rfl
    | true=>
     unfold qV at f;cases e:o.op<;>rw[e]at f<;>first|cases f|skip
     all_goals
      rw[e]at c;simp[yw]at c
   simp only[Xq,f];intro Z z B a w r b;obtain⟨v,H,j⟩:=C Z B a w r;unfold Oper.wp;rw[j w λ_ _=>rfl];simp only[Oper.upon_value];refine⟨.ext (Ext.refl _),_,_,B,v,i,?_,b,Tr.refl _ _ _,rfl⟩;cases J:o.dst with
   | none=>exact r
   | some t=>have g:=h.2.1;rw[J]at g;exact r.to (Tr.ext r.o λ_ _=>rfl) r.o (kZ g) H
 .split at h
  .exact h.elim
  .split at h
   .rename_i p S d c;have C:=Qcu (P:=P) (base:=base) (nt:=nt) E c h.1;have i:=R _ h.2.2;have g:=h.2.1;cases f:qV o with
    | true=>
     unfold qV at f;cases e:o.op<;>rw[e]at f<;>first|cases f|skip
     .rename_i t;simp only[e,AO]at c;split at c
      .rename_i y Y;simp only[Q6,Ze]at c;obtain⟨_,rfl,rfl⟩:=c;have f:qV o=true:=by simp[qV,e]
       simp only[Xq,f];exact⟨_,_,QcL E.L e Y,g,i⟩
      .cases c
     .rename_i t W;cases W with
      | some x=>cases f
      | none=>
       simp only[e,AO]at c;have hq:∃q,S=s.h++[QS q 0 []]/\d=.mref s.h.length 0:=by
        unfold NY at c;split at c
        .split at c;all_goals
          simp only[Q6,Ze]at c;obtain⟨_,rfl,rfl⟩:=c;exact⟨_,rfl,rfl⟩
        .cases c
       obtain⟨q,rfl,rfl⟩:=hq;have f:qV o=true:=by simp[qV,e]
       simp only[Xq,f];exact⟨_,_,QcM e q,g,i⟩
    | false=>
    simp only[Xq,f];intro Z z B a w r b;have T:Dy o=false:=by
     cases I:Dy o with
     | false=>rfl
     | true=>
      unfold Dy at I;split at I
      .rename_i e;simp[AO,e]at c
      .cases I
    obtain⟨v,V,L,j,k,Q,H,O,U⟩:=C Z B a w r (Kv Q5 b.1.size);have m:∀u,u=v->Rel Z base nt ⟨Zg s.fr o.dst d,S⟩ L (a.put o.dst u) V:=by
     rintro u rfl;cases J:o.dst with
     | none=>exact r.Av k Q u
     | some t=>rw[J]at g;exact r.to k Q (kZ g) H
    unfold Oper.wp;rcases j with j|⟨j,hu⟩
    .rw[j];simp only[Oper.upon_value];exact⟨.mk (λl=>U (by simp only[E6,ZL]at l;exact l.1)) T,_,_,L,_,i,m v rfl,b.step k O,k,rfl⟩
    .rw[j];simp only[Oper.upon_skip];exact⟨.mk (λl=>U (by simp only[E6,ZL]at l;exact l.1)) T,_,_,L,_,i,m _ hu.symm,b.step k O,k,rfl⟩
   .exact N h
def Fe{X}(a:qU P X)(c:base<=w0.w.heap.size){K}:∀(l:List (Bool × Oper × G)) (s:St),AT P base w0 X nt K l s->AX P base nt w0 K l s
 | [],s,h=>h
 | (d,o,g)::r,s,h=>by
  have f:∀s,LD X nt d o (AT P base w0 X nt K r) (AX P base nt w0 K ((d,o,none)::r) s) s->Xq P base nt w0 d o (AX P base nt w0 K r) s:=λs i=>
   QoJ a c (λs=>Fe a c r s) (λh=>h) i
  simp only[AT]at h;simp only[AX];split at h
  .exact f s h
  .exact⟨h.1,Fe a c r _ h.2⟩
  .rename_i t b;split at h
   .rename_i x hx;simp only[Qcv,zF,jN,ne_eq]at h;refine⟨λe=>f _ (h.1 e),λe=>?_⟩;have:=h.2 (by rw[e];cases b<;>simp);exact⟨this.1,Fe a c r _ this.2⟩
   .exact⟨h.1,Fe a c r _ h.2⟩
   .exact h.elim
def X9(a:D):D->Prop
 | .imm z n r=>match a with
  | .imm b e d=>b=z/\e=n/\∀i,i<n->d i=r i
  | _=>False
 | .raw v=>a=.raw v
 | .nil=>a=.nil
 | .undef=>a=.undef
 | .ip c=>a=.ip c
 | .ref l g o n=>a=.ref l g o n
 | .ptr l g i j=>a=.ptr l g i j
 | .mref l g=>a=.mref l g
 | .clo f n c=>a=.clo f n c
 | .agg c=>a=.agg c
 | .tup c=>a=.tup c
def KC:List D->List D->Prop
 | [],[]=>True
 | b::a,d::r=>X9 b d/\KC a r
 | _,_=>False
def QoL{N}{w}{g d}{v}(h:X9 g d)(c:Cl N w g v):Cl N w d v:=by
 cases d<;>simp only[X9]at h;case imm z n r=>
  split at h
  .obtain⟨rfl,rfl,h⟩:=h;cases c with
   | imm _ _ _ a f b o k t p l s m=>
    exact .imm _ _ _ a f b o k t p (λi e=>by rw[<- h i e];exact l i e) s (λi j e q=>by rw[<- h i e];exact m i j e q)
  .exact h.elim
 all_goals subst h;exact c
def Qda:∀{a b:List D},KC a b->a.length=b.length/\∀i,i<b.length->X9 (nth a i) (nth b i)
 | [],[],_=>⟨rfl,λi c=>by simp at c⟩
 | [],_::_,h=>h.elim
 | _::_,[],h=>h.elim
 | j::g,d::r,h=>by
  obtain⟨f,e⟩:=Qda h.2;refine⟨by simp[f],λi c=>?_⟩;cases i with
  | zero=>exact h.1
  | succ i=>have:=e i (by simpa using c);simpa[nth] using this
def QoM{Z}{h}{a}{w}{b d}{v}(e:X9 b d)(r:QC Z h a w b v):QC Z h a w d v:=by
 cases d<;>simp only[X9]at e;case imm z n c=>
  split at e
  .cases r with
   | cl _ _ f=>exact .cl _ _ (QoL (d:=.imm z n c) (by simpa only[X9] using e) f)
  .exact e.elim
 all_goals subst e;exact r
def QM.args{P}{f}{F}{a b}{R}(h:QM P f F b R)(e:KC a b):QM P f F a R:=λZ base w d c m l k o j=>by
 obtain⟨p,n⟩:=Qda e;exact h Z base w d c m l k ω λi g=>QoM (n i g) (j i ω)
def QI.args{P}{f}{a b}{R}(h:QI P f b R)(e:KC a b):QI P f a R:=QM.args h e
def SF(U:base<=w0.w.heap.size){K}{g}{u:TypeId}{pos}{i}{N}{r}{s}{x}{c}{Q:Array TypeId}{f}{n}{t}(J:Qn P f)
  (E:JF (Qq s.fr x)=some (f,n,t)) {q:List D} (m:match YK (Wi s.h 4) (Z6 n t (c.toList.map (Qq s.fr))) with|some (p,j)=>p/\KC j q|none=>False) {R:D->List Ob->Prop} (l:QI P f q R)
  (V:∀d h,R d h->d.flat=true/\∀o∈h,o.flat) (F:Zn nt g=true) (I:∀d h,R d h->AX P base nt w0 K r ⟨Zg s.fr g (d.shift s.h.length),s.h++h.map (Ob.shift s.h.length)⟩) :
  AX P base nt w0 K ((false,⟨g,.call ⟨.value x,c,Q⟩,u,pos,i,N⟩,none)::r) s:=by
 simp only[AX,Xq,qV];intro Z z C a w y b;split at m
 .rename_i p j L;obtain⟨H,k⟩:=m;have l:=l.args k;refine Oper.wp_mono (λY W ⟨k,d,h,S,M,B,O,T,v,e⟩=>⟨λ_=>k,_,_,S,v,I d h M,B,O,T,e⟩) (Qcz U J rfl E L H l V F C a w y b _)
 .exact m.elim
def Yw(E:base<=w0.w.heap.size){Q}{k}{b}{q:TypeId}{pos}{c}{B}{r}{s}{x}{a}{C:Array TypeId}{f}{j}{n}(w:Qn P f)
  (t:JF (Qq s.fr x)=some (f,j,n)) {m:List D} (i:match YK (Wi s.h 4) (Z6 j n (a.toList.map (Qq s.fr))) with|some (p,e)=>p/\KC e m|none=>False) {R:D->List Ob->Prop} (g:QI P f m R)
  (F:∀d h,R d h->d.flat=true/\∀o∈h,o.flat) (u:Zn nt b=true) (l:∀d h,R d h->Qw P base nt w0 Q (.ops r::k) .normal ⟨Zg s.fr b (d.shift s.h.length),s.h++h.map (Ob.shift s.h.length)⟩) :
  Qw P base nt w0 Q (.ops ((⟨b,.call ⟨.value x,a,C⟩,q,pos,c,B⟩,none)::r)::k) .normal s:=by
 simp only[Qw]at l ⊢;split at i
 .rename_i p e z;obtain⟨v,y⟩:=i;have g:=g.args y;exact Qoa E w rfl t z v g F u l
 .exact i.elim
end
section
variable {nc:List Nat}{P:Program}{base nt:Nat}{w0:Start}
def Xq.mono{f}{o}{F j}(g:∀s,F s->j s){s}(h:Xq P base nt w0 f o F s):Xq P base nt w0 f o j s:=by
 cases f with
 | true=>obtain⟨d,e,c,i,n⟩:=h;exact⟨d,e,c,i,g _ n⟩
 | false=>
  simp only[Xq]at h ⊢;split at h
  .obtain⟨l,mk,e,c,i⟩:=h;exact⟨l,mk,e,c,g _ i⟩
  intro Z z k a w r b;exact Oper.wp_mono (λq w' ⟨m,d,h',p,v,e,c⟩=>⟨m,d,h',p,v,g _ e,c⟩) (h Z z k a w r b)
def AX.mono{K b}(a:∀s,K s->b s):∀(l:List (Bool × Oper × G)) (s:St),AX P base nt w0 K l s->AX P base nt w0 b l s
 | [],s,h=>a s h
 | (c,o,g)::r,s,h=>by
  simp only[AX]at h ⊢;split at h
  .exact Xq.mono (AX.mono a r) h
  .exact⟨h.1,AX.mono a r _ h.2⟩
  .split at h
   .exact⟨λe=>Xq.mono (AX.mono a r) (h.1 e),λe=>⟨(h.2 e).1,AX.mono a r _ (h.2 e).2⟩⟩
   .exact⟨h.1,AX.mono a r _ h.2⟩
   .exact h.elim
end
end Go.Fg
namespace Go.Fg
attribute [go_sem_proc] reduceIte reduceDIte dreduceIte dreduceDIte reduceCtorEq List.reduceReplicate Nat.reduceAdd Nat.reduceSub Nat.reduceMul Nat.reduceBEq Nat.reduceLT Nat.reduceGT Nat.reduceLeDiff Nat.reduceEqDiff Nat.reduceBneDiff Nat.reduceBeqDiff Nat.reduceSubDiff Nat.reduceBNe Nat.reduceDiv Nat.reduceMod Nat.reduceSucc Nat.reducePow Nat.reduceDvd Int.reduceToNat Int.reduceLE Int.reduceLT Int.reduceGT Int.reduceGE Int.reduceEq Int.reduceNe Int.reduceAdd Int.reduceSub Int.reduceMul Int.reduceNeg Int.reduceDiv Int.reduceMod Int.reducePow Int.reduceBEq Int.reduceBNe Int.reduceOfNat Int.reduceNegSucc Int.reduceNatCast Int.reduceNatCast' Int.reduceAbs Int.reduceDvd
def Vh{c:Sort _}{a b:c}(h:a=b):a=b:=h
@[go_sem] theorem QEH(a b:Nat):Nat.beq a b=(a==b):=by
 rw[vX];simp[Wo]
@[go_sem] theorem QoN(a b):Nat.blt a b=decide (a<b):=by
 rw[vX];simp[xm]
@[go_sem] theorem Ff(a b:Nat):Nat.ble a b=decide (a<=b):=by
 rw[vX];simp[IK]
def hx(P:Program)(a:Nat)(c:Start)(Q:Exit->St->Prop)(X:Cx)(b n:Nat)(k:List Item)(s:St):Prop:=(exec X b n k s).holds P a b c Q
def hz(P:Program)(a:Nat)(b:Start)(Q:Exit->St->Prop)(X:Cx)(c n:Nat)(k:List Item)(s:St):Prop:=hx P a b Q X c n k s
def WQ(b:Bool)(A B:Prop):Prop:=(b=true->A)/\(b=false->B)
def Jf(b:Bool)(A:Prop):Prop:=b=true/\A
section
variable {P:Program}{base:Nat}{w0:Start}{Q:Exit->St->Prop}{X:Cx}{nt n:Nat}{k:List Item}{s:St}
@[go_sem ↓] theorem QEI{B}:WQ true (hz P base w0 Q X nt n k s) B=hx P base w0 Q X nt n k s:=by simp[WQ,hz]
@[go_sem ↓] theorem QEJ{A}:WQ false A (hz P base w0 Q X nt n k s)=hx P base w0 Q X nt n k s:=by simp[WQ,hz]
def Wu{b}{c}{a}(e:b=true->hx P base w0 Q X nt n k s)(d:b=false->hx P base w0 Q X nt n c a):WQ b (hz P base w0 Q X nt n k s) (hz P base w0 Q X nt n c a):=⟨e,d⟩
@[go_sem] theorem QEK:hx P base w0 Q X nt (n+1) [] s=Q .normal s:=Vh rfl
@[go_sem] theorem QEL{a}:hx P base w0 Q X nt (n+1) (.inBlock a::k) s=hx P base w0 Q X nt n k s:=Vh rfl
@[go_sem] theorem QEM:hx P base w0 Q X nt (n+1) (.code .skip::k) s=hx P base w0 Q X nt n k s:=Vh rfl
@[go_sem] theorem QEN{l}:hx P base w0 Q X nt (n+1) (.code (.label l)::k) s=hx P base w0 Q X nt n k s:=Vh rfl
@[go_sem] theorem QEO{a b}:hx P base w0 Q X nt (n+1) (.code (.seq a b)::k) s=hx P base w0 Q X nt n (.code a::.code b::k) s:=Vh rfl
@[go_sem] theorem QEP{a}{c}:hx P base w0 Q X nt (n+1) (.code (.block a c)::k) s=hx P base w0 Q X nt n (.code c::.inBlock a::k) s:=Vh rfl
@[go_sem] theorem QEQ:hx P base w0 Q X nt (n+1) (.inScope::k) s=hx P base w0 Q X nt n k s:=Vh rfl
@[go_sem] theorem QER{c}:hx P base w0 Q X nt (n+1) (.code (.scope c)::k) s=hx P base w0 Q X nt n (.code c::.inScope::k) s:=Vh rfl
@[go_sem] theorem QES{c}{a b}:hx P base w0 Q X nt (n+1) (.code (.cond c a b)::k) s=(match Qq s.fr c with
  | .raw (.bool x)=>WQ x (hz P base w0 Q X nt n (.code a::k) s) (hz P base w0 Q X nt n (.code b::k) s)
  | _=>False):=by
 simp only[hx,exec];generalize Qq s.fr c=d;cases d with
 | raw v=>cases v<;>rfl
 | _=>rfl
@[go_sem] theorem QET{a}:hx P base w0 Q X nt (n+1) (.code (.exit a)::k) s=(match jU a k with
  | some b=>hx P base w0 Q X nt n b s
  | none=>Q (.exit a) s):=by
 simp only[hx,exec];generalize jU a k=r;cases r<;>rfl
@[go_sem] theorem QEU:hx P base w0 Q X nt (n+1) (.code .ret::k) s=Q .ret s:=Vh rfl
@[go_sem] theorem QEV{b}{a}:hx P base w0 Q X nt (n+1) (.code (.region b a false)::k) s=hx P base w0 Q X nt n (.ops (BX a)::k) s:=Vh rfl
@[go_sem] theorem QEW{b}{a}:hx P base w0 Q X nt (n+1) (.code (.region b a true)::k) s=Qw P base nt w0 Q (.code (.region b a true)::k) .normal s:=Vh rfl
@[go_sem] theorem QEX{c}:hx P base w0 Q X nt (n+1) (.code (.loop c)::k) s=Qw P base nt w0 Q (.code (.loop c)::k) .normal s:=Vh rfl
@[go_sem] theorem QEY:hx P base w0 Q X nt (n+1) (.ops []::k) s=hx P base w0 Q X nt n k s:=Vh rfl
@[go_sem ↓] theorem QEZ{A}:Jf true A=A:=by simp[Jf]
@[go_sem] theorem QE0{o:Oper}{r}:hx P base w0 Q X nt (n+1) (.ops ((o,none)::r)::k) s=(match yw X s o.op with
  | some (p,d)=>p/\(match Zn nt o.dst with|true=>hx P base w0 Q X nt n (.ops r::k) ⟨Zg s.fr o.dst d,s.h⟩|false=>False)
  | none=>match AO X s o.op with
   | some (p,h,d)=>p/\(match Zn nt o.dst with|true=>hx P base w0 Q X nt n (.ops r::k) ⟨Zg s.fr o.dst d,h⟩|false=>False)
   | none=>Qw P base nt w0 Q (.ops ((o,none)::r)::k) .normal s):=by
 simp only[hx,exec];generalize yw X s o.op=b;generalize AO X s o.op=a;cases b with
 | some e=>cases Zn nt o.dst<;>simp[Tree.holds]
 | none=>cases a with
  | some c=>cases Zn nt o.dst<;>simp[Tree.holds]
  | none=>rfl
def Qdb{o:Oper}{t}{b}{r}(a:Zn nt o.dst=true):hx P base w0 Q X nt (n+1) (.ops ((o,some (some t,b))::r)::k) s=(match get s.fr t with
  | .raw (.bool x)=>WQ (EX b x) (hz P base w0 Q X nt n (.ops ((o,none)::r)::k) ⟨put s.fr t (.raw (.bool b)),s.h⟩) (hz P base w0 Q X nt n (.ops r::k) ⟨Zg (put s.fr t (.raw (.bool (!b)))) o.dst (.raw Go.undef),s.h⟩)
  | .raw (.tuple _)=>hx P base w0 Q X nt n (.ops r::k) ⟨Zg s.fr o.dst (.raw Go.undef),s.h⟩
  | _=>False):=by
 simp only[hx,exec];generalize get s.fr t=d;cases d with
 | raw v=>
  cases v with
  | bool x=>simp[WQ,hz,hx,a,Tree.holds]
  | tuple c=>simp[a]
  | _=>rfl
 | _=>rfl
@[go_sem] theorem QE1{o:Oper}{t}{r}(a:Zn nt o.dst=true):hx P base w0 Q X nt (n+1) (.ops ((o,some (some t,true))::r)::k) s=(match get s.fr t with
  | .raw (.bool x)=>WQ x (hz P base w0 Q X nt n (.ops ((o,none)::r)::k) ⟨put s.fr t (.raw (.bool true)),s.h⟩) (hz P base w0 Q X nt n (.ops r::k) ⟨Zg (put s.fr t (.raw (.bool false))) o.dst (.raw Go.undef),s.h⟩)
  | .raw (.tuple _)=>hx P base w0 Q X nt n (.ops r::k) ⟨Zg s.fr o.dst (.raw Go.undef),s.h⟩
  | _=>False):=Qdb a
@[go_sem] theorem QE2{o:Oper}{t}{r}(a:Zn nt o.dst=true):hx P base w0 Q X nt (n+1) (.ops ((o,some (some t,false))::r)::k) s=(match get s.fr t with
  | .raw (.bool x)=>WQ x (hz P base w0 Q X nt n (.ops r::k) ⟨Zg (put s.fr t (.raw (.bool true))) o.dst (.raw Go.undef),s.h⟩) (hz P base w0 Q X nt n (.ops ((o,none)::r)::k) ⟨put s.fr t (.raw (.bool false)),s.h⟩)
  | .raw (.tuple _)=>hx P base w0 Q X nt n (.ops r::k) ⟨Zg s.fr o.dst (.raw Go.undef),s.h⟩
  | _=>False):=by
 rw[Qdb a];generalize get s.fr t=d;cases d with
 | raw v=>
  cases v with
  | bool x=>cases x<;>simp[WQ,EX]
  | _=>rfl
 | _=>rfl
end
section
variable {P:Program}{base nt:Nat}{w0:Start}{Q:Exit->St->Prop}{k:List Item}{s:St}{I:Nat->St->Prop}{m:Nat}
@[go_sem] theorem QE3{e}:Qw P base nt w0 Q [] e s=Q e s:=Vh rfl
@[go_sem] theorem QE4{x}:Qw P base nt w0 Q (x::k) .ret s=Qw P base nt w0 Q k .ret s:=by cases x<;>rfl
@[go_sem] theorem QE5{c}{j}:Qw P base nt w0 Q (.code c::k) (.exit j) s=Qw P base nt w0 Q k (.exit j) s:=Vh rfl
@[go_sem] theorem QE6{l}{j}:Qw P base nt w0 Q (.ops l::k) (.exit j) s=Qw P base nt w0 Q k (.exit j) s:=Vh rfl
@[go_sem] theorem QE7{a}:Qw P base nt w0 Q (.inBlock a::k) (.exit a) s=Qw P base nt w0 Q k .normal s:=by simp[Qw]
@[go_sem] theorem QE8{a j}(h:(j==a)=false):Qw P base nt w0 Q (.inBlock a::k) (.exit j) s=Qw P base nt w0 Q k (.exit j) s:=by
 have:¬ j=a:=by simpa using h
 simp[Qw,this]
@[go_sem] theorem QE9{a}:Qw P base nt w0 Q (.inBlock a::k) .normal s=Qw P base nt w0 Q k .normal s:=Vh rfl
@[go_sem] theorem QFa{j}:Qw P base nt w0 Q (.inScope::k) (.exit j) s=Qw P base nt w0 Q k (.exit j) s:=Vh rfl
@[go_sem] theorem QFb:Qw P base nt w0 Q (.inScope::k) .normal s=Qw P base nt w0 Q k .normal s:=Vh rfl
@[go_sem] theorem QFc:dt P base nt w0 Q k I m .normal s=∃b a,b<m/\Qr w0 s a/\I b a:=Vh rfl
@[go_sem] theorem QFd{j}:dt P base nt w0 Q k I m (.exit j) s=Qw P base nt w0 Q k (.exit j) s:=Vh rfl
@[go_sem] theorem QFe:dt P base nt w0 Q k I m .ret s=Qw P base nt w0 Q k .ret s:=Vh rfl
end
attribute [go_sem] BX guardOf strip Qq get put Zg Zn YG J8 yw AO jU EX
 bT bJ bK bL bM GH GI bO mT IntKind.same IY mk TK.agg NQ bU bV NR bW bX bY bZ
 Az BL setRow R4 R5 Dp cA NW yp BR cB kV cD cH EU Lh cat kW zK nth D.there JC nu
 Z6 YK Wi JF EY one AP D.shift yx Ob.shift jV D.XO D.flat G5 D.upto xy G7 G9 B0 BZ N7 Kd.IS Kd.ty Kd.ro Kd.Lr Kd.toRo
attribute [go_sem] JQ List.map_nil List.getElem?_toArray List.getElem?_cons_zero List.getElem?_cons_succ List.getElem?_nil bD Option.bind_none K6 zE Vo List.length_nil qc jM JZ
 List.all_cons List.all_nil List.take_zero List.take_succ_cons List.take_nil List.drop_zero List.drop_succ_cons List.drop_nil List.set_cons_zero List.set_cons_succ List.getD_cons_zero List.getD_cons_succ List.replicate_zero bk List.flatten_cons List.flatten_nil
 wi jl Da Gx Bool.and_true IB RG Gw Bool.or_true RH Bool.or_false IA NM decide_true decide_false yl and_true false_and and_false
 implies_true forall_const reduceCtorEq List.toList_toArray IC Int.natCast_nonneg Int.ofNat_lt Int.ofNat_le Int.ofNat_inj JR Ap QB Jj Q6 Ze
def AU{P}{a c}{b:Start}{Q}{X}(e:qU P X)(d:a<=b.w.heap.size)(n){k}{s}(h:hx P a b Q X c n k s):Qw P a c b Q k .normal s:=k9 e d n k s h
def oy{P:Program}{X}(o:qU P X){f}{d:Func}{c}(n)(m:P.funcs[f]? = some d)(g:d.body=some c){b:List D}{R}{e}{i}(p:d.ntmps=e)(q:d.results=i)(k:Nat.ble b.length e=true)
  (h:∀(a:Nat) (w:World),a<=w.heap.size->hx P a ⟨w,[],[]⟩ (AP X.L i.toList R) X e n [.code c] ⟨jV b 0,[]⟩):QI P f b R:=
 QcE o n m g p (RP k) (by
  subst q;intro a w j g l;cases j with
  | nil=>exact h a w g
  | cons _ _=>simp at l)
def oz{P:Program}{X}(m:qU P X){f}{d:Func}{c}(n)(l:P.funcs[f]? = some d)(i:d.body=some c){F}{b:List D}{R}{g}{j}(o:d.ntmps=g)(p:d.results=j)(k:Nat.ble b.length g=true)
  (h:∀(a:Nat) (w:World) (e:List Pl),a<=w.heap.size->hx P a ⟨w,F,e⟩ (AP X.L j.toList R) X g n [.code c] ⟨jV b 0,F⟩):QM P f F b R:=
 QcE m n l i o (RP k) (by subst p;exact λa w e i _=>h a w e i)
def Zl.take{Z}{a}{h:List Ob}{c:List Pl}{w}(R:Zl Z a h c w)(k)(y:B0 k (h.take k)):Zl Z a (h.take k) (c.take k) w:=by
 have f:∀(l:Nat) (p:Pl),(c.take k)[l]? = some p->c[l]? = some p:=λl p e=>by
  rw[XK]at e;split at e
  .exact e
  .cases e
 have m:∀(l:Nat) (o:Ob),(h.take k)[l]? = some o->h[l]? = some o:=λl o e=>by
  rw[XK]at e;split at e
  .exact e
  .cases e
 refine⟨by simp[R.len],λl r b q n C B=>R.inj l r b q n (f _ _ C) (f _ _ B),λl o d g=>R.V0 l o (m _ _ d) (f _ _ g),λl o b q d g=>?_⟩;obtain⟨z,x⟩:=R.at_ l o b q (m _ _ d) (f _ _ g);exact⟨z,x.to rfl rfl rfl rfl (λ_ _=>rfl) λi j v u t s=>s.take (N8 (nY y l o d i u) j t)⟩
def Kept(k:Nat)(R:D->List Ob->Prop)(d:D)(h:List Ob):Prop:=d.upto k=true/\B0 k (h.take k)/\R d (h.take k)
def QoP{a:List Pl}{k b}(h:Xy a b):Xy (a.take k) b:=λl q e=>by
 rw[XK]at e;split at e
 .exact h l q e
 .cases e
def QM.take{P}{f}{F:List Ob}{a}{R}(k)(t:F.length<=k)(h:QM P f F a (Kept k R)):QM P f F a R:=λZ b w g e C B z c x=>
 (h Z b w g e C B z c x).mono λ_ _ ⟨v,d,u,J,q,⟨I,H,E⟩,n,m,j,i⟩=>⟨v,d,u.take k,J.take k,q,E,n.take k H,m.take I,
  j.keep t ⟨λ_ y=>QoP y,λl o p c s r=>⟨o,by rw[XK,Qe c];exact s,by rw[XK,Qe c];exact r,rfl,rfl,rfl⟩⟩,i⟩
def Qdc(k){P:Program}{X}(m:qU P X){f}{d:Func}{c}(n)(j:P.funcs[f]? = some d)(l:d.body=some c){a:List D}{R}{e}{g}(o:d.ntmps=e)(p:d.results=g)(i:Nat.ble a.length e=true)
  (h:∀(b:Nat) (w:World),b<=w.heap.size->hx P b ⟨w,[],[]⟩ (AP X.L g.toList (Kept k R)) X e n [.code c] ⟨jV a 0,[]⟩):QI P f a R:=
 QM.take k (Jj _) (oy m n j l o p i h)
attribute [go_sem] Kept
def Qdd{k}:∀{h c:List Ob},BZ h c->B0 k c->B0 k h
 | [],[],_,_=>trivial
 | [],_::_,h,_=>h.elim
 | _::_,[],h,_=>h.elim
 | _::_,_::_,h,b=>⟨λi a=>by rw[<- h.1.2.2.2.2 i a];exact b.1 i (by rw[h.1.2.2.1];exact a),Qdd h.2 b.2⟩
def Wk.to{m}(k){d a}{h c:List Ob}(b:G7 d a/\G9 k a=true/\B0 k c/\BZ (h.take k) c)(e:m<=k:=by exact RP rfl):Wk m ⟨d,h⟩ ⟨a,c⟩:=
 Wk.trans (Wk.frame b.1) (Wk.trans (Wk.drop k e b.2.1 (Qdd b.2.2.2 b.2.2.1)) (Wk.G8 b.2.2.2))
def Qr.to{c:Start}(k){d a}{h b:List Ob}(e:G7 d a/\G9 k a=true/\B0 k b/\BZ (h.take k) b)(f:c.F.length<=k:=by exact RP rfl):Qr c ⟨d,h⟩ ⟨a,b⟩:=(Wk.to k e f).up
def Qr.frame{b}{a fr'}{h}(c:G7 a fr'):Qr b ⟨a,h⟩ ⟨fr',h⟩:=(Wk.frame c).up
def Qr.kP{d}{b}{h:List Ob}(t c)(a)(e:get b t=.nil):Qr d ⟨b,h⟩ ⟨put b t (.ref h.length 0 0 0),h++[⟨.arr,0,c,0,a⟩]⟩:=(Wk.kP t c a e).up
def QFf{a:Type}[Inhabited a](c:Nat)(b:a->List D)(l:List a)(d:D)(h:List Ob):Prop:=∃g,d=.ref 0 g 0 l.length/\h=[⟨.arr,g,c,l.length,λi=>b (l.getD i default)⟩]
def Om(P:Program)(a:Nat)(b:Start)(Q:Exit->St->Prop)(X:Cx)(c n:Nat)(k:List Item)(s:St):Prop:=hx P a b Q X c n k s
def K9(P:Program)(a:Nat)(b:Start)(X:Cx)(c:Nat)(K:St->Prop)(l:List (Bool × Oper × G))(s:St):Prop:=AT P a b X c K l s
def zO(P:Program)(a:Nat)(b:Start)(X:Cx)(c:Nat)(K:St->Prop)(l:List (Bool × Oper × G))(s:St):Prop:=K9 P a b X c K l s
section
variable {nc:List Nat}{P:Program}{base:Nat}{w0:Start}{Q:Exit->St->Prop}{X:Cx}{nt n:Nat}{k:List Item}{s:St}{l:List (Bool × Oper × G)}{K:St->Prop}
@[go_sem ↓] theorem QFg{B}:WQ true (zO P base w0 X nt K l s) B=K9 P base w0 X nt K l s:=by simp[WQ,zO]
@[go_sem ↓] theorem QFh{A}:WQ false A (zO P base w0 X nt K l s)=K9 P base w0 X nt K l s:=by simp[WQ,zO]
def qp{b}{c}{a}(e:b=true->K9 P base w0 X nt K l s)(d:b=false->K9 P base w0 X nt K c a):WQ b (zO P base w0 X nt K l s) (zO P base w0 X nt K c a):=⟨e,d⟩
@[go_sem] theorem QFi:K9 P base w0 X nt K [] s=K s:=Vh rfl
@[go_sem] theorem QFj:Om P base w0 Q X nt n k s=hx P base w0 Q X nt n k s:=Vh rfl
@[go_sem] theorem QFk{o:Oper}{r}:K9 P base w0 X nt K ((true,o,none)::r) s=(match yw X s o.op with
  | some (p,d)=>p/\(match Zn nt o.dst with|true=>K9 P base w0 X nt K r ⟨Zg s.fr o.dst d,s.h⟩|false=>False)
  | none=>False):=by
 simp only[K9,AT,LD];generalize yw X s o.op=a;cases a with
 | some b=>cases Zn nt o.dst<;>simp
 | none=>rfl
@[go_sem] theorem QFl{o:Oper}{r}:K9 P base w0 X nt K ((false,o,none)::r) s=(match yw X s o.op with
  | some (p,d)=>p/\(match Zn nt o.dst with|true=>K9 P base w0 X nt K r ⟨Zg s.fr o.dst d,s.h⟩|false=>False)
  | none=>match AO X s o.op with
   | some (p,h,d)=>p/\(match Zn nt o.dst with|true=>K9 P base w0 X nt K r ⟨Zg s.fr o.dst d,h⟩|false=>False)
   | none=>AX P base nt w0 K ((false,o,none)::r) s):=by
 simp only[K9,AT,LD];generalize yw X s o.op=b;generalize AO X s o.op=a;cases b with
 | some e=>cases Zn nt o.dst<;>simp
 | none=>cases a with
  | some c=>cases Zn nt o.dst<;>simp
  | none=>rfl
def Qde{a}{o:Oper}{t}{b}{r}(c:Zn nt o.dst=true):K9 P base w0 X nt K ((a,o,some (some t,b))::r) s=(match get s.fr t with
  | .raw (.bool x)=>WQ (EX b x) (zO P base w0 X nt K ((a,o,none)::r) ⟨put s.fr t (.raw (.bool b)),s.h⟩) (zO P base w0 X nt K r ⟨Zg (put s.fr t (.raw (.bool (!b)))) o.dst (.raw Go.undef),s.h⟩)
  | .raw (.tuple _)=>K9 P base w0 X nt K r ⟨Zg s.fr o.dst (.raw Go.undef),s.h⟩
  | _=>False):=by
 simp only[K9,zO,AT];generalize get s.fr t=d;cases d with
 | raw v=>
  cases v with
  | bool x=>simp[WQ,c]
  | tuple e=>simp[c]
  | _=>rfl
 | _=>rfl
@[go_sem] theorem QFm{a}{o:Oper}{t}{r}(b:Zn nt o.dst=true):K9 P base w0 X nt K ((a,o,some (some t,true))::r) s=(match get s.fr t with
  | .raw (.bool x)=>WQ x (zO P base w0 X nt K ((a,o,none)::r) ⟨put s.fr t (.raw (.bool true)),s.h⟩) (zO P base w0 X nt K r ⟨Zg (put s.fr t (.raw (.bool false))) o.dst (.raw Go.undef),s.h⟩)
  | .raw (.tuple _)=>K9 P base w0 X nt K r ⟨Zg s.fr o.dst (.raw Go.undef),s.h⟩
  | _=>False):=Qde b
@[go_sem] theorem QFn{a}{o:Oper}{t}{r}(b:Zn nt o.dst=true):K9 P base w0 X nt K ((a,o,some (some t,false))::r) s=(match get s.fr t with
  | .raw (.bool x)=>WQ x (zO P base w0 X nt K r ⟨Zg (put s.fr t (.raw (.bool true))) o.dst (.raw Go.undef),s.h⟩) (zO P base w0 X nt K ((a,o,none)::r) ⟨put s.fr t (.raw (.bool false)),s.h⟩)
  | .raw (.tuple _)=>K9 P base w0 X nt K r ⟨Zg s.fr o.dst (.raw Go.undef),s.h⟩
  | _=>False):=by
 rw[Qde b];generalize get s.fr t=d;cases d with
 | raw v=>
  cases v with
  | bool x=>cases x<;>simp[WQ,EX]
  | _=>rfl
 | _=>rfl
def Qdf{d}{a}(c:qU P X)(b:base<=w0.w.heap.size)(n)(f:P.follows .mixedOrders=true)(l)(i:dX X.L a l=true)(g:B3 a s.fr=true)(h:K9 P base w0 X nt (Om P base w0 Q X nt n k) (VO [] a l) s):Qw P base nt w0 Q (.code (.region d a true)::k) .normal s:=
 QoI c.L b f l i g (AX.mono (λs e=>AU c b n e) _ _ (Fe c b _ _ h))
def QoQ(b:qU P X)(a:base<=w0.w.heap.size)(h:K9 P base w0 X nt K l s):AX P base nt w0 K l s:=Fe b a _ _ h
abbrev LF:=Nat × Oper × G × List Nat
def LG:List Edge->List Nat
 | []=>[]
 | e::r=>bif Region.binds .any e then e.on::LG r else LG r
def jX(nc:List Nat)(a:Array Oper):List Nat->List LF
 | []=>[]
 | i::r=>match a[i]? with
  | some o=>(i,qn (K8 i nc) o,guardOf a o,LG o.after.toList)::jX nc a r
  | none=>jX nc a r
def DC(i:Nat):List LF->List LF
 | []=>[]
 | e::r=>bif Nat.beq e.1 i then DC i r else e::DC i r
def On(done:List Nat):List Nat->Bool
 | []=>true
 | i::r=>K8 i done&&On done r
def SG(F:LF->Prop):List LF->Prop
 | []=>True
 | e::r=>F e/\SG F r
def Fh(P:Program)(base:Nat)(w0:Start)(X:Cx)(nt:Nat)(K:St->Prop):Nat->List LF->List Nat->St->Prop
 | 0,_,_,s=>K s
 | m+1,a,done,s=>SG (λe=>match On done e.2.2.2 with
  | true=>K9 P base w0 X nt (Fh P base w0 X nt K m (DC e.1 a) (e.1::done)) [(false,e.2.1,e.2.2.1)] s
  | false=>True) a
def oA{done}:∀{l:List Edge},vg done l=false->On done (LG l)=true
 | [],_=>rfl
 | e::r,h=>by
  simp only[vg,Db,Gv,Bool.not_eq_false']at h;simp only[LG];cases a:Region.binds .any e
  .exact oA h.2
  .simp only[wi,On,ZL];refine⟨h.1.resolve_left (by rw[a];simp),oA h.2⟩
def Qdg{F}:∀{l:List LF},SG F l->∀e∈l,F e
 | [],_,e,he=>by cases he
 | x::r,h,e,he=>by
  rcases QF.1 he with rfl|he
  .exact h.1
  .exact Qdg h.2 e he
def oB{a:Array Oper}{i}{o:Oper}(b:a[i]? = some o):∀{R:List Nat},i∈R->(i,qn (K8 i nc) o,guardOf a o,LG o.after.toList)∈jX nc a R
 | [],h=>by cases h
 | j::r,h=>by
  simp only[jX];rcases QF.1 h with rfl|h
  .rw[b];exact Kx ..
  .split
   .exact Ki _ (oB b h)
   .exact oB b h
def eh{a}{i}:∀{R:List Nat},i ∉ R->DC i (jX nc a R)=jX nc a R
 | [],_=>rfl
 | j::r,h=>by
  simp only[QF,qP]at h;simp only[jX];split
  .simp only[DC];have:Nat.beq j i=false:=by rw[<- Yq,Wo];exact λe=>h.1 e.symm
   rw[this,jl,eh h.2]
  .exact eh h.2
def oC{a}{i}:∀{R:List Nat},R.Nodup->DC i (jX nc a R)=jX nc a (R.erase i)
 | [],_=>rfl
 | j::r,h=>by
  obtain⟨d,c⟩:=ZY.1 h;by_cases b:j=i
  .subst b;rw[List.erase_cons_head];simp only[jX];split
   .simp only[DC,NF,wi];exact eh d
   .exact eh d
  .rw[List.erase_cons_tail (by simpa using b)];have e:Nat.beq j i=false:=by rw[<- Yq,Wo];exact b
   simp only[jX];cases f:a[j]? with
   | some o=>simp only[DC,e,jl,oC c]
   | none=>simp only[oC c]
def oD(d:qU P X)(c:base<=w0.w.heap.size){a}{g}(e:∀s,K s->g s):∀(m:Nat) (R done:List Nat) (s:St),R.Nodup->Fh P base w0 X nt K m (jX nc a R) done s->Fb nc P base nt w0 a g m R done s
 | 0,_,_,s,_,h=>e s h
 | m+1,R,done,s,b,h=>by
  intro i q o p r;have f:=Qdg h _ (oB p q);simp only[oA r]at f;refine AX.mono (λs j=>oD d c e m (R.erase i) (i::done) s (b.erase _) ?_) _ _ (Fe d c _ _ f);rw[<- oC b];exact j
def Qdh(nc){f}{a}(c:qU P X)(b:base<=w0.w.heap.size)(n)(g:P.follows .mixedOrders=true)(l)(R)(e:DB nc X.L a l R=true)(i:B3 a s.fr=true)
  (h:K9 P base w0 X nt (Fh P base w0 X nt (Om P base w0 Q X nt n k) R.length (jX nc a R) (l.map (·.1))) (VO nc a l) s):Qw P base nt w0 Q (.code (.region f a true)::k) .normal s:=by
 have j:R.Nodup:=by
  simp only[DB,ZL]at e;exact(dW e.1.2).1
 exact Qc9 c.L b g l R e i (AX.mono (λs d=>oD c b (λs d=>AU c b n d) _ _ _ s j d) _ _ (Fe c b _ _ h))
def QFo{b}{a}(e:qU P X)(d:base<=w0.w.heap.size)(n)(c:P.follows .mixedOrders=true)(l)(R)(g:DB [] X.L a l R=true)(f:B3 a s.fr=true)
  (h:K9 P base w0 X nt (Fh P base w0 X nt (Om P base w0 Q X nt n k) R.length (jX [] a R) (l.map (·.1))) (VO [] a l) s):Qw P base nt w0 Q (.code (.region b a true)::k) .normal s:=Qdh [] e d n c l R g f h
@[go_sem] theorem QFp{i}:Region.binds .any ⟨i,.data⟩=true:=rfl
@[go_sem] theorem QFq{i}:Region.binds .any ⟨i,.chain⟩=true:=rfl
@[go_sem] theorem QFr{i}:Region.binds .any ⟨i,.guard⟩=true:=rfl
@[go_sem] theorem QFs{i}:Region.binds .any ⟨i,.phase⟩=true:=rfl
@[go_sem] theorem QFt{i}{d}:Region.binds .any ⟨i,.textOnly d⟩=false:=rfl
@[go_sem] theorem QFu{i}{d}:Region.binds .any ⟨i,.gcOnly d⟩=false:=rfl
@[go_sem] theorem QFv{a}{d}:Fh P base w0 X nt K 0 a d s=K s:=Vh rfl
@[go_sem] theorem QFw{m}{a}{d}:Fh P base w0 X nt K (m+1) a d s=SG (λe=>match On d e.2.2.2 with
  | true=>K9 P base w0 X nt (Fh P base w0 X nt K m (DC e.1 a) (e.1::d)) [(false,e.2.1,e.2.2.1)] s
  | false=>True) a:=Vh rfl
end
def SH(P:Program)(a d:Nat)(b:Start)(Q:Exit->St->Prop)(k:List Item)(S:Nat->St->Prop)(N i:Nat):Exit->St->Prop
 | .normal,s=>i<N/\∃c,Qr b s c/\S (i+1) c
 | e,s=>Qw P a d b Q k e s
section
variable {P:Program}{base nt:Nat}{w0:Start}{Q:Exit->St->Prop}{k:List Item}{s:St}
@[go_sem] theorem QFx{S}{N i}:SH P base nt w0 Q k S N i .normal s=(i<N/\∃a,Qr w0 s a/\S (i+1) a):=Vh rfl
@[go_sem] theorem QFy{S}{N i j}:SH P base nt w0 Q k S N i (.exit j) s=Qw P base nt w0 Q k (.exit j) s:=Vh rfl
@[go_sem] theorem QFz{S}{N i}:SH P base nt w0 Q k S N i .ret s=Qw P base nt w0 Q k .ret s:=Vh rfl
def ZW{c}(S)(N){s0}(d:Qr w0 s s0)(j:S 0 s0)(a:∀i s,i<=N->S i s->Qw P base nt w0 (SH P base nt w0 Q k S N i) [.code c] .normal s):Qw P base nt w0 Q (.code (.loop c)::k) .normal s:=by
 refine Ls (λm s=>∃i,i+m=N/\S i s) N d ⟨0,ω,j⟩ ?_;rintro m s ⟨i,o,f⟩;have:=a i s ω f;simp only[Qw]at this ⊢;refine this.mono λe n b=>?_;cases e with
 | normal=>obtain⟨p,l,h,g⟩:=b;exact⟨m - 1,l,ω,h,i+1,ω,g⟩
 | _=>exact b
end
def DD{P}{a d}{b}{Q}{l}{k}{s c}(h:Qr b s c)(e:Qw P a d b Q (.ops l::k) .normal c):Qw P a d b Q (.ops l::k) .normal s:=by
 simp only[Qw]at e ⊢;exact e.YL h
attribute [go_sem] qn jX LG DC On K8 SG VO KC false_implies imp_self ne_eq not_false_eq_true not_true_eq_false Nat.one_ne_zero
@[go_sem] theorem QFA(v):D.Vr (.raw v)=Az v:=rfl
@[go_sem] theorem QFB  : D.Vr (.nil)=true:=rfl
@[go_sem] theorem QFC  : D.Vr (.undef)=false:=rfl
@[go_sem] theorem QFD(z n)(r):D.Vr (.imm z n r)=true:=rfl
@[go_sem] theorem QFE(c):D.Vr (.ip c)=true:=rfl
@[go_sem] theorem QFF(l g o n):D.Vr (.ref l g o n)=true:=rfl
@[go_sem] theorem QFG(l g i j):D.Vr (.ptr l g i j)=true:=rfl
@[go_sem] theorem QFH(l g):D.Vr (.mref l g)=true:=rfl
@[go_sem] theorem QFI(f)(n)(c):D.Vr (.clo f n c)=true:=rfl
@[go_sem] theorem QFJ(c):D.Vr (.agg c)=false:=rfl
@[go_sem] theorem QFK(c):D.Vr (.tup c)=false:=rfl
@[go_sem] theorem QFL(v):Yu (.raw v)=bif D.Vr (.raw v) then some [.raw v] else none:=rfl
@[go_sem] theorem QFM  : Yu (.nil)=bif D.Vr (.nil) then some [.nil] else none:=rfl
@[go_sem] theorem QFN  : Yu (.undef)=bif D.Vr (.undef) then some [.undef] else none:=rfl
@[go_sem] theorem QFO(z n)(r):Yu (.imm z n r)=bif D.Vr (.imm z n r) then some [.imm z n r] else none:=rfl
@[go_sem] theorem QFP(c):Yu (.ip c)=bif D.Vr (.ip c) then some [.ip c] else none:=rfl
@[go_sem] theorem QFQ(l g o n):Yu (.ref l g o n)=bif D.Vr (.ref l g o n) then some [.ref l g o n] else none:=rfl
@[go_sem] theorem QFR(l g i j):Yu (.ptr l g i j)=bif D.Vr (.ptr l g i j) then some [.ptr l g i j] else none:=rfl
@[go_sem] theorem QFS(l g):Yu (.mref l g)=bif D.Vr (.mref l g) then some [.mref l g] else none:=rfl
@[go_sem] theorem QFT(f)(n)(c):Yu (.clo f n c)=bif D.Vr (.clo f n c) then some [.clo f n c] else none:=rfl
@[go_sem] theorem QFU(c:List D):Yu (.agg c)=bif c.all D.Vr then some c else none:=rfl
@[go_sem] theorem QFV(c):Yu (.tup c)=bif D.Vr (.tup c) then some [.tup c] else none:=rfl
@[go_sem] theorem QFW(a)(v):X9 a (.raw v)=(a=.raw v):=rfl
@[go_sem] theorem QFX(a)  : X9 a (.nil)=(a=.nil):=rfl
@[go_sem] theorem QFY(a)  : X9 a (.undef)=(a=.undef):=rfl
@[go_sem] theorem QFZ(a c z n)(b r):X9 (.imm a c b) (.imm z n r)=(a=z/\c=n/\∀i,i<n->b i=r i):=rfl
@[go_sem] theorem QF0(a)(c):X9 a (.ip c)=(a=.ip c):=rfl
@[go_sem] theorem QF1(a)(l g o n):X9 a (.ref l g o n)=(a=.ref l g o n):=rfl
@[go_sem] theorem QF2(a)(l g i j):X9 a (.ptr l g i j)=(a=.ptr l g i j):=rfl
@[go_sem] theorem QF3(a)(l g):X9 a (.mref l g)=(a=.mref l g):=rfl
@[go_sem] theorem QF4(a)(f)(n)(c):X9 a (.clo f n c)=(a=.clo f n c):=rfl
@[go_sem] theorem QF5(a)(c):X9 a (.agg c)=(a=.agg c):=rfl
@[go_sem] theorem QF6(a)(c):X9 a (.tup c)=(a=.tup c):=rfl
end Go.Fg
namespace Go.Fg
open Go.RowKit (Below)
def pos(l:Nat):List Nat->Nat
 | []=>0
 | k::r=>bif Nat.beq k l then 0 else pos l r+1
mutual
def D.Ya(a:List Nat):D->D
 | .ref l g c e=>.ref (pos l a) g c e
 | .ptr l g i j=>.ptr (pos l a) g i j
 | .mref l g=>.mref (pos l a) g
 | .clo f h b=>.clo f h (zP a b)
 | .agg b=>.agg (zP a b)
 | .tup b=>.tup (zP a b)
 | d=>d
def zP(a:List Nat):List D->List D
 | []=>[]
 | c::b=>c.Ya a::zP a b
end
mutual
def D.B5(a:List Nat):D->Bool
 | .ref l _ _ _=>K8 l a
 | .ptr l _ _ _=>K8 l a
 | .mref l _=>K8 l a
 | .clo _ _ b=>yA a b
 | .agg b=>yA a b
 | .tup b=>yA a b
 | _=>true
def yA(a:List Nat):List D->Bool
 | []=>true
 | c::b=>c.B5 a&&yA a b
end
def LH{l}:∀{Qp:List Nat},K8 l Qp=true->Qp[pos l Qp]? = some l
 | [],h=>by cases h
 | k::r,h=>by
  simp only[pos];by_cases e:k=l
  .subst e;simp
  .have b:Nat.beq k l=false:=by rw[<- Yq,Wo];exact e
   have a:Nat.beq l k=false:=by rw[<- Yq,Wo];exact λx=>e x.symm
   simp only[K8,a,IA]at h;simp[b,LH h]
def vj(b):∀a:List D,(zP b a).length=a.length
 | []=>rfl
 | _::a=>by simp[zP,vj b a]
def Fi(b):∀(a:List D) (i:Nat),i<a.length->nth (zP b a) i=(nth a i).Ya b
 | [],i,h=>by simp at h
 | c::a,0,_=>by simp[zP,nth]
 | c::a,i+1,h=>by
  have:=Fi b a i (by simpa using h);simpa[zP,nth] using this
def Oo{c}:∀{b:List D},yA c b=true->∀i,i<b.length->(nth b i).B5 c=true
 | [],_,i,h=>by simp at h
 | d::r,a,i,h=>by
  simp only[yA,ZL]at a;cases i with
  | zero=>exact a.1
  | succ i=>have:=Oo a.2 i (by simpa using h);simpa[nth] using this
def Ob.Ya(a:List Nat)(o:Ob):Ob:=⟨o.kd,o.gen,o.sz,o.n,λi=>zP a (o.row i)⟩
def qq(h:List Ob):List Nat->List Ob
 | []=>[]
 | i::r=>match h[i]? with
  | some o=>o::qq h r
  | none=>[]
def vk(a:List Pl):List Nat->List Pl
 | []=>[]
 | i::r=>match a[i]? with
  | some o=>o::vk a r
  | none=>[]
def WR(n:Nat):List Nat->Bool
 | []=>true
 | i::r=>Nat.blt i n&&WR n r
def AV:List Nat->Bool
 | []=>true
 | i::r=>!K8 i r&&AV r
def Qdi{n}:∀{l:List Nat},WR n l=true->∀i∈l,i<n
 | [],_,i,h=>by cases h
 | k::r,h,i,a=>by
  simp only[WR,ZL,xm]at h;rcases QF.1 a with e|e
  .subst e;exact h.1
  .exact Qdi h.2 i e
def Qdj:∀{l:List Nat},AV l=true->∀(i j x:Nat),l[i]? = some x->l[j]? = some x->i=j
 | [],_,i,j,x,h,_=>by simp at h
 | k::r,h,i,j,x,b,a=>by
  simp only[AV,ZL,zB]at h;have c:k ∉ r:=λd=>by rw[xz.2 d]at h;cases h.1
  cases i with
  | zero=>
   simp at b;subst b;cases j with
   | zero=>rfl
   | succ j=>simp at a;exact absurd (NA a) c
  | succ i=>
   simp at b;cases j with
   | zero=>simp at a;subst a;exact absurd (NA b) c
   | succ j=>simp at a;rw[Qdj h.2 i j x b a]
def LI{h:List Ob}:∀{Qp:List Nat},WR h.length Qp=true->∀(i l:Nat),Qp[i]? = some l->(qq h Qp)[i]? = h[l]?
 | [],_,i,l,e=>by simp at e
 | k::r,a,i,l,e=>by
  simp only[WR,ZL,xm]at a;simp only[qq,QG a.1];cases i with
  | zero=>simp at e;subst e;simp[QG a.1]
  | succ i=>simp at e;simpa using LI a.2 i l e
def B6{h:List Pl}:∀{Qp:List Nat},WR h.length Qp=true->∀(i l:Nat),Qp[i]? = some l->(vk h Qp)[i]? = h[l]?
 | [],_,i,l,e=>by simp at e
 | k::r,a,i,l,e=>by
  simp only[WR,ZL,xm]at a;simp only[vk,QG a.1];cases i with
  | zero=>simp at e;subst e;simp[QG a.1]
  | succ i=>simp at e;simpa using B6 a.2 i l e
def ei{h:List Ob}:∀{Qp:List Nat},WR h.length Qp=true->(qq h Qp).length=Qp.length
 | [],_=>rfl
 | k::r,a=>by
  simp only[WR,ZL,xm]at a;simp[qq,QG a.1,ei a.2]
def Oq{h:List Pl}:∀{Qp:List Nat},WR h.length Qp=true->(vk h Qp).length=Qp.length
 | [],_=>rfl
 | k::r,a=>by
  simp only[WR,ZL,xm]at a;simp[vk,QG a.1,Oq a.2]
def QC.Qp{Z O}{h:List Ob}{u:List Pl}{w}{k}(W:∀b,free Z u b->O b)(s:u.length=h.length)(H:WR h.length k=true){d:D}{v}(r:QC Z h u w d v)(F:d.B5 k=true):
  QC O ((qq h k).map (Ob.Ya k)) (vk u k) w (d.Ya k) v:=by
 have J:WR u.length k=true:=by rw[s];exact H
 have V:∀b,free Z u b->free O (vk u k) b:=λb T=>⟨W b T,λl q e=>by
  have Qc:l<k.length:=by rw[<- Oq J];exact Wp e
  rw[B6 J l (k[l]) (QG Qc)]at e;exact T.2 _ q e⟩
 have Zx:∀(d:D) (v:Value),Cl (free Z u) w d v->QC O ((qq h k).map (Ob.Ya k)) (vk u k) w (d.Ya k) v:=by
  intro d v z;have AI:=z.mono (N':=free O (vk u k)) (w':=w) (λb H _=>⟨V b H,rfl⟩);clear z;induction AI with
  | raw v=>exact .cl _ _ (.raw v)
  | undef v=>exact .cl _ _ (.undef v)
  | nil a=>exact .cl _ _ (.nil a)
  | imm U n Q a C b o m Y s B z x t=>exact .cl _ _ (.imm U n Q a C b o m Y s B z x)
  | ip E b o m z x t=>exact .cl _ _ (.ip E b o m z x)
  | clo f P N m s x t=>exact .clo f P _ m (by rw[vj];exact s) (λi c=>by rw[vj]at c;rw[Fi _ _ _ c];exact t i c)
  | agg N m s x t=>exact .agg _ m (by rw[vj];exact s) (λi c=>by rw[vj]at c;rw[Fi _ _ _ c];exact t i c)
  | tup N m s x t=>exact .tup _ m (by rw[vj];exact s) (λi c=>by rw[vj]at c;rw[Fi _ _ _ c];exact t i c)
 induction r with
 | cl d v z=>exact Zx d v z
 | ref l g R S o p a C L K I M B=>
  have y:K8 l k=true:=by simpa[D.B5] using F
  exact .ref _ g R S (o.Ya k) p a C (by rw[KP,LI H _ l (LH y),L];rfl) (by rw[B6 J _ l (LH y),K]) I M B
 | ptr l g i j o p a L K I M B=>
  have y:K8 l k=true:=by simpa[D.B5] using F
  exact .ptr _ g i j (o.Ya k) p a (by rw[KP,LI H _ l (LH y),L];rfl) (by rw[B6 J _ l (LH y),K]) I M B
 | mref l g o p b L K I M B=>
  have y:K8 l k=true:=by simpa[D.B5] using F
  exact .mref _ g (o.Ya k) p b (by rw[KP,LI H _ l (LH y),L];rfl) (by rw[B6 J _ l (LH y),K]) I M B
 | clo f P N m s x t=>exact .clo f P _ m (by rw[vj];exact s) λi c=>by rw[vj]at c;rw[Fi _ _ _ c];exact t i c (Oo (by simpa[D.B5] using F) i c)
 | agg N m s x t=>exact .agg _ m (by rw[vj];exact s) λi c=>by rw[vj]at c;rw[Fi _ _ _ c];exact t i c (Oo (by simpa[D.B5] using F) i c)
 | tup N m s x t=>exact .tup _ m (by rw[vj];exact s) λi c=>by rw[vj]at c;rw[Fi _ _ _ c];exact t i c (Oo (by simpa[D.B5] using F) i c)
def LJ(a:List Nat):List Ob->Prop
 | []=>True
 | o::r=>(∀i,i<o.n->yA a (o.row i)=true)/\LJ a r
def Qdk{a}:∀{h:List Ob},LJ a h->∀(l:Nat) (o:Ob),h[l]? = some o->∀i,i<o.n->yA a (o.row i)=true
 | [],_,l,o,e=>by simp at e
 | o::r,h,l,u,e=>by
  cases l with
  | zero=>simp at e;subst e;exact h.1
  | succ l=>simp at e;exact Qdk h.2 l u e
def Zl.Qp{Z F}{c}{h:List Ob}{g}{w}{a}(R:Zl Z c h g w)(L:∀b,free Z g b->F b)(r:WR h.length a=true)(O:AV a=true)(P:LJ a (qq h a)):
  Zl F c ((qq h a).map (Ob.Ya a)) (vk g a) w:=by
 have t:WR g.length a=true:=by rw[R.len];exact r
 have s:∀(i:Nat) (p:Pl),(vk g a)[i]? = some p->∃l,a[i]? = some l/\g[l]? = some p:=λi p e=>by
  have Qc:i<a.length:=by rw[<- Oq t];exact Wp e
  exact⟨a[i],QG Qc,by rw[<- B6 t i _ (QG Qc)];exact e⟩
 have E:∀(i:Nat) (o:Ob),((qq h a).map (Ob.Ya a))[i]? = some o->∃l u,a[i]? = some l/\h[l]? = some u/\o=u.Ya a/\(qq h a)[i]? = some u:=λi o e=>by
  rw[KP,X3]at e;obtain⟨u,f,rfl⟩:=e;have Qc:i<a.length:=by rw[<- ei r];exact KA f
  exact⟨a[i],u,QG Qc,by rw[<- LI r i _ (QG Qc)];exact f,rfl,f⟩
 refine⟨by rw[Oq t,KK,ei r],λi K b q I T S=>?_,λi o B z=>?_,λi o b q B z=>?_⟩
 .obtain⟨l,m,J⟩:=s _ _ T;obtain⟨y,d,n⟩:=s _ _ S;have:=R.inj l y b q I J n;subst this;exact Qdj O i K l m d
 .obtain⟨l,u,m,f,rfl,_⟩:=E _ _ B;obtain⟨y,d,n⟩:=s _ _ z;rw[m]at d;cases d;exact R.V0 l u f n
 .obtain⟨l,u,m,f,rfl,H⟩:=E _ _ B;obtain⟨y,d,n⟩:=s _ _ z;rw[m]at d;cases d;obtain⟨Q,x⟩:=R.at_ l u b q f n;refine⟨Q,x.to rfl rfl rfl rfl (λk _=>vj _ _) λk j v N C M=>?_⟩;show QC _ _ _ _ (nth (zP a (u.row k)) j) v;rw[Fi _ _ _ C];exact M.Qp L R.len r (Oo (Qdk P i u H k N) j C)
def Qdl{c:List Pl}{a}(d:WR c.length a=true){b}(h:Xy c b):Xy (vk c a) b:=λl q e=>by
 have Qc:l<a.length:=by rw[<- Oq d];exact Wp e
 rw[B6 d l (a[l]) (QG Qc)]at e;exact h _ q e
def oF(a:List Nat)(R:D->List Ob->Prop)(d:D)(h:List Ob):Prop:=d.B5 a=true/\WR h.length a=true/\LJ a (qq h a)/\R (d.Ya a) ((qq h a).map (Ob.Ya a))
def SI:Nat->Nat->List Nat->Bool
 | 0,_,_=>true
 | _+1,_,[]=>false
 | m+1,i,k::r=>Nat.beq k i&&SI m (i+1) r
def Qdm:∀{m i:Nat} {Qp:List Nat},SI m i Qp=true->∀l,l<m->Qp[l]? = some (i+l)
 | 0,_,_,_,l,a=>ω
 | m+1,i,[],h,_,_=>by cases h
 | m+1,i,k::r,h,l,a=>by
  simp only[SI,ZL]at h;obtain rfl:=RO h.1;cases l with
  | zero=>simp
  | succ l=>rw[List.getElem?_cons_succ,Qdm h.2 l ω];congr 1;omega
def QM.Qp{P}{f}{F:List Ob}{a}{R}(b)(y:AV b=true)(t:SI F.length 0 b=true)(h:QM P f F a (oF b R)):QM P f F a R:=λZ g w m k H E C j z=>
 (h Z g w m k H E C j z).mono λ_ _ ⟨v,d,M,L,s,⟨K,c,J,I⟩,i,r,q,n⟩=>⟨v,d.Ya b,_,vk L b,s,I,i.Qp (λ_ h=>h.1) c y J,r.Qp (λ_ h=>h.1) i.len c K,
  q.keep (QB _) ⟨λ_ B=>Qdl (by rw[i.len];exact c) B,λl o p j x u=>by
   have e:=Qdm t l j;rw[JR]at e;exact⟨o.Ya b,by rw[KP,LI c l l e,x];rfl,by rw[B6 (by rw[i.len];exact c) l l e,u],rfl,rfl,rfl⟩⟩,n⟩
def Qdn(g)(l:AV g=true){P:Program}{X}(o:qU P X){f}{d:Func}{c}(n)(k:P.funcs[f]? = some d)(m:d.body=some c){a:List D}{R}{e}{i}(p:d.ntmps=e)(q:d.results=i)(j:Nat.ble a.length e=true)
  (h:∀(b:Nat) (w:World),b<=w.heap.size->hx P b ⟨w,[],[]⟩ (AP X.L i.toList (oF g R)) X e n [.code c] ⟨jV a 0,[]⟩):QI P f a R:=
 QM.Qp g l rfl (oy o n k m p q j h)
attribute [go_sem] oF pos D.Ya zP D.B5 yA Ob.Ya qq WR LJ K8
mutual
def D.idx(a:Nat->Nat):D->D
 | .ref l g c e=>.ref (a l) g c e
 | .ptr l g i j=>.ptr (a l) g i j
 | .mref l g=>.mref (a l) g
 | .clo f h b=>.clo f h (AW a b)
 | .agg b=>.agg (AW a b)
 | .tup b=>.tup (AW a b)
 | d=>d
def AW(a:Nat->Nat):List D->List D
 | []=>[]
 | c::b=>c.idx a::AW a b
end
def xC(b):∀a:List D,(AW b a).length=a.length
 | []=>rfl
 | _::a=>by simp[AW,xC b a]
def Hb(b):∀(a:List D) (i:Nat),i<a.length->nth (AW b a) i=(nth a i).idx b
 | [],i,h=>by simp at h
 | c::a,0,_=>by simp[AW,nth]
 | c::a,i+1,h=>by
  have:=Hb b a i (by simpa using h);simpa[AW,nth] using this
def Ob.idx(a:Nat->Nat)(o:Ob):Ob:=⟨o.kd,o.gen,o.sz,o.n,λi=>AW a (o.row i)⟩
def QC.idx{Z P}{h R}{N L}{w}(M)(Y:∀b,free Z N b->free P L b)
  (S:∀(l:Nat) (o:Ob) (p:Pl),h[l]? = some o->N[l]? = some p->∃q,R[M l]? = some q/\L[M l]? = some p/\q.gen=o.gen/\q.sz=o.sz/\q.kd.ty=o.kd.ty) {d:D} {v:Value} (r:QC Z h N w d v):QC P R L w (d.idx M) v:=by
 have Zx:∀(d:D) (v:Value),Cl (free Z N) w d v->QC P R L w (d.idx M) v:=by
  intro d v t;have AI:=t.mono (N':=free P L) (w':=w) (λb hb _=>⟨Y b hb,rfl⟩);clear t;induction AI with
  | raw v=>exact .cl _ _ (.raw v)
  | undef v=>exact .cl _ _ (.undef v)
  | nil a=>exact .cl _ _ (.nil a)
  | imm W n T a y b o e ha m x t s k=>exact .cl _ _ (.imm W n T a y b o e ha m x t s)
  | ip z b o e t s k=>exact .cl _ _ (.ip z b o e t s)
  | clo f Q K e m s k=>exact .clo f Q _ e (by rw[xC];exact m) (λi c=>by rw[xC]at c;rw[Hb _ _ _ c];exact k i c)
  | agg K e m s k=>exact .agg _ e (by rw[xC];exact m) (λi c=>by rw[xC]at c;rw[Hb _ _ _ c];exact k i c)
  | tup K e m s k=>exact .tup _ e (by rw[xC];exact m) (λi c=>by rw[xC]at c;rw[Hb _ _ _ c];exact k i c)
 induction r with
 | cl d v t=>exact Zx d v t
 | ref l g U V o p a y C B E F x=>
  obtain⟨q,J,I,u,O,H⟩:=S l o p C B;exact .ref _ g U V q p a y J I (by rw[H];exact E) (by rw[u];exact F) (by rw[u,O];exact x)
 | ptr l g i j o p a C B E F x=>
  obtain⟨q,J,I,u,O,H⟩:=S l o p C B;exact .ptr _ g i j q p a J I (by rw[H];exact E) (by rw[u];exact F) (by rw[u,O];exact x)
 | mref l g o p b C B E F x=>
  obtain⟨q,J,I,u,O,H⟩:=S l o p C B;exact .mref _ g q p b J I (by rw[H];exact E) (by rw[u];exact F) (by rw[u];exact x)
 | clo f Q K e m s k=>exact .clo f Q _ e (by rw[xC];exact m) (λi c=>by rw[xC]at c;rw[Hb _ _ _ c];exact k i c)
 | agg K e m s k=>exact .agg _ e (by rw[xC];exact m) (λi c=>by rw[xC]at c;rw[Hb _ _ _ c];exact k i c)
 | tup K e m s k=>exact .tup _ e (by rw[xC];exact m) (λi c=>by rw[xC]at c;rw[Hb _ _ _ c];exact k i c)
def Xe(n:Nat):List Nat->Nat->Nat
 | [],i=>n+i
 | k::_,0=>k
 | _::r,i+1=>Xe n r i
def Yb{a:Type}(h:List a):List Nat->List a->List a
 | [],b=>h++b
 | k::r,x::b=>Yb (h.set k x) r b
 | _::_,[]=>h
def eu{n}:∀{Qp:List Nat} {i l:Nat},Qp[i]? = some l->Xe n Qp i=l
 | [],i,l,h=>by simp at h
 | k::r,0,l,h=>by simp at h;simp[Xe,h]
 | k::r,i+1,l,h=>by simp at h;simp[Xe,eu h]
def Qdo{n}:∀{Qp:List Nat} {i:Nat},Xe n Qp (Qp.length+i)=n+i
 | [],i=>by simp[Xe]
 | k::r,i=>by
  rw[show (k::r).length+i=(r.length+i)+1 by simp;omega];simp only[Xe];exact Qdo
def oG{n:Type}:∀{Qp:List Nat} {h a:List n},WR h.length Qp=true->AV Qp=true->Qp.length<=a.length->∀(i:Nat),i<a.length->(Yb h Qp a)[Xe h.length Qp i]? = a[i]?
 | [],h,a,_,_,_,i,f=>by
  simp only[Yb,Xe];rw[Kh ω];congr 1;omega
 | k::r,h,[],_,_,o,i,f=>by simp at f
 | k::r,h,x::a,l,g,o,i,f=>by
  simp only[WR,ZL,xm]at l;simp only[AV,ZL,zB]at g;simp only[Yb];have b:(h.set k x).length=h.length:=σ;cases i with
  | zero=>
   have s:k ∉ r:=λd=>by rw[xz.2 d]at g;cases g.1
   have m:∀(r:List Nat) (c a:List n),k ∉ r->k<c.length->(Yb c r a)[k]? = c[k]? := by
    intro r;induction r with
    | nil=>intro c a _ Qc;simp only[Yb];rw[JO Qc]
    | cons j r q=>
     intro c a d Qc;cases a with
     | nil=>rfl
     | cons y p=>
      simp only[Yb];rw[q (c.set j y) p (λt=>d (Ki _ t)) (by simpa using Qc),JP (λe=>d (by rw[e];exact Kx))]
   simp only[Xe];rw[m r (h.set k x) a s (by simpa using l.1)];simp[l.1]
  | succ i=>
   simp only[Xe];rw[<- b];exact oG (by rw[b];exact l.2) g.2 (by simpa using o) i (by simpa using f)
def Ot{d:Type}:∀{Qp:List Nat} {h b:List d} {l:Nat},l<h.length->l ∉ Qp->(Yb h Qp b)[l]? = h[l]?
 | [],h,b,l,a,_=>by simp only[Yb];rw[JO a]
 | k::r,h,[],l,a,_=>rfl
 | k::r,h,x::b,l,a,c=>by
  simp only[Yb];rw[Ot (by simpa using a) (λf=>c (Ki _ f)),JP (λe=>c (by rw[e];exact Kx))]
def ez{c:Type}:∀{Qp:List Nat} {h a:List c},Qp.length<=a.length->(Yb h Qp a).length=h.length+(a.length - Qp.length)
 | [],h,a,_=>by simp[Yb]
 | k::r,h,[],b=>by simp at b
 | k::r,h,x::a,b=>by
  simp only[Yb];rw[ez (by simpa using b)];simp
def QoR{d:Type}{a:List Nat}{h b:List d}(j:WR h.length a=true)(g:a.length<=b.length){l}(k:l<h.length+(b.length - a.length)):
  (∃i,i<b.length/\l=Xe h.length a i)\/(l<h.length/\l ∉ a):=by
 by_cases Qc:l<h.length
 .by_cases c:l∈a
  .obtain⟨i,f,e⟩:=xl c;exact .inl ⟨i,ω,(eu (by rw[QG f,e])).symm⟩
  .exact .inr ⟨Qc,c⟩
 .refine .inl ⟨a.length+(l - h.length),ω,?_⟩;rw[Qdo];omega
section
variable {P:Program}{base nt:Nat}{w0:Start}{Q:Exit->St->Prop}
def jY(h:List Ob)(a:List Nat)(b:List Ob):List Ob:=Yb h a (b.map (Ob.idx (Xe h.length a)))
def QoS{Z}{s:St}{f}{w J:World}{a}(R:Zl Z base s.h f w)(Q5:base<=w.heap.size)(hz:∀b,w.heap.size<=b->Z b)(hb:WR s.h.length a=true)(hd:AV a=true)
  {n:List Ob} {m:List Pl} {d:D} {v:Value} {F:List Ob} (hF:F.length=a.length) (a1:∀(i:Nat) (o u:Ob),F[i]? = some o->(∃l,a[i]? = some l/\s.h[l]? = some u)->o.gen=u.gen/\o.sz=u.sz/\o.kd.ty=u.kd.ty)
  (O':Zl (λb=>Z b/\∀l q,f[l]? = some (some (b,q))->l∈a) base n m J) (V':QC (λb=>Z b/\∀l q,f[l]? = some (some (b,q))->l∈a) n m J d v)
  (T:Tr F (vk f a) w n m J) (B:Below base w J) :
  Tr s.h f w (jY s.h a n) (Yb f a m) J/\Zl Z base (jY s.h a n) (Yb f a m) J/\QC Z (jY s.h a n) (Yb f a m) J (d.idx (Xe s.h.length a)) v:=by
 have M:WR f.length a=true:=by rw[R.len];exact hb
 have oH:m.length=n.length:=O'.len;have Ou:∀(i l:Nat),a[i]? = some l->∃u p E N,s.h[l]? = some u/\f[l]? = some p/\n[i]? = some E/\m[i]? = some N/\u.gen<=E.gen/\E.kd.ty=u.kd.ty/\(E.gen=u.gen->E.sz=u.sz/\N=p):=by
  intro i l e;have t:i<a.length:=(Xa.1 e).1;have hl:l<s.h.length:=Qdi hb l (NA e);have S:F[i]? = some (F[i]'ω):=QG _;have g:s.h[l]? = some s.h[l]:=QG hl;have Jx:l<f.length:=by rw[R.len];exact hl
  have C:f[l]? = some f[l]:=QG Jx;obtain⟨V,k2,K⟩:=a1 i _ _ S ⟨l,e,g⟩;obtain⟨E,N,t1,t2,t3,t4,t5⟩:=T.obj i _ f[l] S (by rw[B6 M i l e,C]);exact⟨_,_,E,N,g,C,t1,t2,ω,by rw[t4,K],λx=>by obtain⟨y,z⟩:=t5 ω;exact⟨by rw[y,k2],z⟩⟩
 have B7:a.length<=n.length:=by
  rcases Nat.eq_zero_or_pos a.length with h0|h0
  .omega
  .obtain⟨_,_,E,_,_,_,h3,_⟩:=Ou (a.length - 1) _ (QG ω);have:=KA h3;omega
 have eA:a.length<=m.length:=ω;have hN:s.h.length=f.length:=R.len.symm;have eB:∀i,i<m.length->(Yb f a m)[Xe s.h.length a i]? = m[i]? := λi t=>by rw[hN];exact oG M hd eA i t
 have SJ:∀i,i<n.length->(jY s.h a n)[Xe s.h.length a i]? = (n[i]?).map (Ob.idx (Xe s.h.length a)):=λi t=>by
  unfold jY;rw[oG hb hd (by simpa using B7) i (by simpa using t),KP]
 have r:∀(l b q:Nat),l ∉ a->f[l]? = some (some (b,q))->Xy m b/\J.heap[b]? = w.heap[b]? := λl b q L e=>by
  refine T.Ko b (λi Y e'=>?_) (R.lt e).1;have t:i<a.length:=by rw[<- Oq M];exact Wp e'
  have g:a[i]? = some a[i]:=QG t;rw[B6 M i _ g]at e';have:=R.inj _ _ _ _ _ e e';exact L (by rw[this];exact X0 t)
 have W:∀(l:Nat) (p:Pl),(Yb f a m)[l]? = some p->(∃i,i<m.length/\l=Xe s.h.length a i/\m[i]? = some p)\/(l<f.length/\l ∉ a/\f[l]? = some p):=λl p e=>by
  have Qc:=Wp e;rw[ez eA]at Qc;rcases QoR M eA Qc with ⟨i,t,rfl⟩|⟨O,I⟩
  .rw[hN]at eB ⊢;exact .inl ⟨i,t,rfl,by rw[<- eB i t];exact e⟩
  .exact .inr ⟨O,I,by rw[Ot O I]at e;exact e⟩
 have Oc:∀b,free (λb=>Z b/\∀l q,f[l]? = some (some (b,q))->l∈a) m b->free Z (Yb f a m) b:=λb hf=>⟨hf.1.1,λl q e=>by
  rcases W l _ e with ⟨i,_,_,g⟩|⟨_,I,g⟩
  .exact hf.2 i q g
  .exact I (hf.1.2 l q g)⟩
 have Zj:∀(l:Nat) (o:Ob) (p:Pl),n[l]? = some o->m[l]? = some p->∃E,(jY s.h a n)[Xe s.h.length a l]? = some E/\(Yb f a m)[Xe s.h.length a l]? = some p/\E.gen=o.gen/\E.sz=o.sz/\E.kd.ty=o.kd.ty:=λl o p h H=>
  ⟨o.idx (Xe s.h.length a),by rw[SJ l (KA h),h];rfl,by rw[eB l (Wp H),H],rfl,rfl,rfl⟩
 have T2:Tr s.h f w (jY s.h a n) (Yb f a m) J:=by
  refine⟨λb a0 Qc=>?_,λl o p h H=>?_,λl o E b q h ZM hg H c el hc=>?_⟩
  .obtain⟨O,I⟩:=T.Ko b (Qdl M a0) Qc;refine⟨λl q e=>?_,I⟩;rcases W l _ e with ⟨i,_,_,g⟩|⟨_,_,g⟩
   .exact O i q g
   .exact a0 l q g
  .by_cases L:l∈a
   .obtain⟨i,t,e⟩:=xl L;have g:a[i]? = some l:=by rw[QG t,e]
    obtain⟨u,p1,E,N,V,k2,K,k4,k5,k6,k7⟩:=Ou i l g;rw[h]at V;cases V;rw[H]at k2;cases k2;have Hc:Xe s.h.length a i=l:=eu g;refine⟨E.idx (Xe s.h.length a),N,by rw[<- Hc,SJ i (KA K),K];rfl,by rw[<- Hc,eB i (Wp k4),k4],k5,k6,k7⟩
   .exact⟨o,p,by unfold jY;rw[Ot (KA h) L];exact h,by rw[Ot (Wp H) L];exact H,QB _,rfl,λ_=>⟨rfl,rfl⟩⟩
  .by_cases L:l∈a
   .obtain⟨i,t,e⟩:=xl L;have g:a[i]? = some l:=by rw[QG t,e]
    obtain⟨u,p1,o1,N,V,k2,K,k4,k5,k6,k7⟩:=Ou i l g;rw[h]at V;cases V;have Hc:Xe s.h.length a i=l:=eu g;rw[<- Hc,SJ i (KA K),K]at ZM;cases ZM;have S:F[i]? = some (F[i]'ω):=QG _;obtain⟨f1,f2,f3⟩:=a1 i _ _ S ⟨l,g,h⟩;have hg:o1.gen=o.gen:=hg;exact T.shape i _ o1 b q S K ω (by rw[B6 M i l g,H]) c el hc
   .exact⟨c,by rw[(r l b q L H).2];exact hc,rfl⟩
 refine⟨T2,⟨?_,λl l' b q Y S g=>?_,λl o h H=>?_,λl o b q h H=>?_⟩,V'.idx _ Oc Zj⟩
 .unfold jY;rw[ez eA,ez (by simpa using B7)];simp[R.len,oH]
 .rcases W l _ S with ⟨i,t,rfl,C⟩|⟨O,I,C⟩<;>rcases W l' _ g with ⟨j,hj,rfl,e4⟩|⟨h3,h4,e4⟩
  .rw[O'.inj i j b q Y C e4]
  .exact absurd C ((r l' b Y h4 e4).1 i q)
  .exact absurd e4 ((r l b q I C).1 j Y)
  .exact R.inj l l' b q Y C e4
 .rcases W l _ H with ⟨i,t,rfl,C⟩|⟨O,I,C⟩
  .have U:i<n.length:=ω;rw[SJ i U,QG U]at h;cases h;exact O'.V0 i n[i] (QG U) C
  .unfold jY at h;rw[Ot ω I]at h;exact R.V0 l o h C
 .rcases W l _ H with ⟨i,t,rfl,C⟩|⟨O,I,C⟩
  .have U:i<n.length:=ω;rw[SJ i U,QG U]at h;cases h;obtain⟨g1,x⟩:=O'.at_ i _ b q (QG U) C;refine⟨g1,x.to rfl rfl rfl rfl (λk _=>xC _ _) λk j v hk hj hr=>?_⟩;show QC _ _ _ _ (nth (AW _ (n[i].row k)) j) v;rw[Hb _ _ _ hj];exact hr.idx _ Oc Zj
  .unfold jY at h;rw[Ot ω I]at h;obtain⟨g1,x⟩:=R.at_ l o b q h C;exact⟨g1,x.to rfl rfl rfl (r l b q I C).2 (λ_ _=>rfl) λi j v _ _ hr=>hr.tr T2⟩
def Qdr(Q5:base<=w0.w.heap.size){o:Oper}{s}{x}{c}{Zq:Array TypeId}{f}{B}{J}(hf:Qn P f)(ho:o.op=.call ⟨.value x,c,Zq⟩)
  (hx:JF (Qq s.fr x)=some (f,B,J)) (g:List Nat) (p:WR s.h.length g=true) (I:AV g=true) (Y:LJ g (qq s.h g)) (eC:yA g (Z6 B J (c.toList.map (Qq s.fr)))=true)
  {R:D->List Ob->Prop} (hF:QM P f ((qq s.h g).map (Ob.Ya g)) (zP g (Z6 B J (c.toList.map (Qq s.fr)))) R)
  (N:Zn nt o.dst=true) {Z:Nat->Prop} (z:Sg w0 Z) (j:List Pl) (a:Act) (w:World) (r:Rel Z base nt s j a w) (b:Vg Z base w0 s.h j w) (Q':Exit->Act->World->Prop) :
  o.wp P a w (λT y=>(g=[]->Ext w y)/\∃d h C,R d h/\Rel Z base nt ⟨Zg s.fr o.dst (d.idx (Xe s.h.length g)),jY s.h g h⟩ C T y/\Vg Z base w0 (jY s.h g h) C y/\Tr s.h j w (jY s.h g h) C y/\∃v,T=a.put o.dst v) Q':=by
 obtain⟨V,hv,U,EZ⟩:=Sn (r.eval x) hx;have K:base<=w.heap.size:=Kv Q5 b.1.size;have E:∀b,w.heap.size<=b->Z b:=b.2.2.new;have qs:WR j.length g=true:=by rw[r.o.len];exact p
 have L:∀b,free Z j b->(Z b/\∀l q,j[l]? = some (some (b,q))->l∈g):=λk m=>⟨m.1,λl q e=>absurd e (m.2 l q)⟩;obtain⟨W,Kr⟩:=Sq (r:=λd v=>QC Z s.h j w d v) (nf:=B) U EZ (us:=c.toList.map a.eval) (args:=c.toList.map (Qq s.fr)) σ (λi n=>by
  have JB:i<c.toList.length:=by simpa using n
  simp only[nth,Q7,QY,KP];rw[QG JB];exact r.eval _)
 have hc:=hF (λb=>Z b/\∀l q,j[l]? = some (some (b,q))->l∈g) base w (vk j g) (Z6 B V (c.toList.map a.eval)) K
  (λk m=>⟨E k m,λl q e=>by have:=(r.o.lt e).1;omega⟩) (r.o.Qp L p I Y) (by rw[vj];exact W) (λi n=>by
   rw[vj]at n;rw[Fi _ _ _ n];exact(Kr i n).Qp L r.o.len p (Oo eC i n))
 unfold Oper.wp;rw[Sr hf ho hv w];simp only[Oper.upon_enter];refine hc.mono λe y he=>?_;obtain⟨v,d,h',C,rfl,hR,hO,hV,O,S⟩:=he;obtain⟨H,M,j3⟩:=QoS r.o K E p I (F:=(qq s.h g).map (Ob.Ya g)) (by rw[KK,ei p]) (λi o u e ⟨l,e1,e2⟩=>by
  rw[KP,LI p i l e1,e2]at e;cases e;exact⟨rfl,rfl,rfl⟩) hO hV O S
 refine⟨λe=>by subst e;exact λk m=>(O.Ko k (λl q e=>by simp[vk]at e) m).2,d,h',Yb j g C,hR,?_,b.step H S,H,v,rfl⟩;cases I:o.dst with
 | none=>exact r.Av H M v
 | some t=>rw[I]at N;exact r.to H M (kZ N) j3
def Va(Q5:base<=w0.w.heap.size)(g){k}{H}{ty:TypeId}{pos}{I}{gd}{r}{s}{x}{n}{Zq:Array TypeId}{f}{T}{V}(hf:Qn P f)
  (hx:JF (Qq s.fr x)=some (f,T,V)) {F:List Ob} {cs:List D} (Jf:WR s.h.length g=true/\AV g=true/\LJ g (qq s.h g)/\yA g (Z6 T V (n.toList.map (Qq s.fr)))=true/\KC (zP g (Z6 T V (n.toList.map (Qq s.fr)))) cs/\BZ ((qq s.h g).map (Ob.Ya g)) F)
  {R:D->List Ob->Prop} (hF:QM P f F cs R) (ht:Zn nt H=true) (hk:∀d h,R d h->Qw P base nt w0 Q (.ops r::k) .normal ⟨Zg s.fr H (d.idx (Xe s.h.length g)),jY s.h g h⟩) :
  Qw P base nt w0 Q (.ops ((⟨H,.call ⟨.value x,n,Zq⟩,ty,pos,I,gd⟩,none)::r)::k) .normal s:=by
 simp only[Qw]at hk ⊢;obtain⟨hb,hd,oI,eC,he,y⟩:=Jf;intro Z z S a w r b;simp only[qk,XA,Vp];have a1:=hF.args he;have a0:QM P f ((qq s.h g).map (Ob.Ya g)) (zP g (Z6 T V (n.toList.map (Qq s.fr)))) R:=by
  intro Z base w S vs h1 h2 M hl hc;have hw:=Wk.G8 (m:=F.length) (fr:=[]) y;obtain⟨W,r',K⟩:=hw Z base 0 S { tmps:=#[],defers:=[] } w ⟨rfl,rfl,λt=>.cl _ _ (.undef _),M⟩;obtain⟨e1,e2⟩:=dh y;refine(a1 Z base w S vs h1 h2 ?_ hl (λi L=>(hc i L).G8 y)).mono λe w' ⟨v,d,h,W,k1,k2,k3,k4,k5,k6⟩=>⟨v,d,h,W,k1,k2,k3,k4,?_,k6⟩
  .refine⟨by rw[e1];exact M.len,M.inj,λl B E C=>?_,λl B b q E C=>?_⟩
   .obtain⟨o,u,J⟩:=e2 l B E;rw[J.2.2.1];exact M.V0 l o u C
   .obtain⟨o,u,J,U,g6,g8,g7⟩:=e2 l B E;obtain⟨N,x⟩:=M.at_ l o b q u C;exact⟨λhr=>N (by rw[<- g8.2,hr]),x.to g8.1 U g6 rfl (λi L=>by rw[g7 i L]) λi j v L _ hr=>by rw[g7 i L];exact hr.G8 y⟩
  .have O:∀(l:Nat) (o:Ob),((qq s.h g).map (Ob.Ya g))[l]? = some o->∃B,F[l]? = some B/\N7 o B:=λl o e=>by
    have:l<F.length:=by rw[e1];exact KA e
    obtain⟨o2,u,J⟩:=e2 l _ (QG this);rw[e]at u;cases u;exact⟨_,QG this,J⟩
   refine⟨k5.Ko,λl o p E C=>?_,λl o bG b q E NP hg C c el hc=>?_⟩
   .obtain⟨Y,N,g2,u,J,U,g6⟩:=O l o E;obtain⟨B,p',t1,t2,t3,t4,t5⟩:=k5.obj l Y p N C;exact⟨B,p',t1,t2,ω,by rw[t4,U.1],λx=>by obtain⟨y1,y2⟩:=t5 ω;exact⟨by rw[y1,u],y2⟩⟩
   .obtain⟨Y,N,g2,u,J,U,g6⟩:=O l o E;exact k5.shape l Y bG b q N NP ω C c el hc
 exact Oper.wp_mono (λa' w' ⟨_,d,h,W,hR,r',b',_⟩=>hk d h hR Z z W a' w' r' b') (Qdr Q5 hf rfl hx g hb hd oI eC a0 ht z S a w r b _)
def QoV(M:base<=w0.w.heap.size){K}{g}{n:TypeId}{pos}{i}{H}{r}{s}{x}{c}{J:Array TypeId}{f}{j}{k}(B:Qn P f)
  (t:JF (Qq s.fr x)=some (f,j,k)) {l:List D} (m:yA [] (Z6 j k (c.toList.map (Qq s.fr)))=true/\KC (zP [] (Z6 j k (c.toList.map (Qq s.fr)))) l) {R:D->List Ob->Prop} (F:QI P f l R)
  (u:Zn nt g=true) (y:∀d h,R d h->AX P base nt w0 K r ⟨Zg s.fr g (d.idx (Xe s.h.length [])),jY s.h [] h⟩) :
  AX P base nt w0 K ((false,⟨g,.call ⟨.value x,c,J⟩,n,pos,i,H⟩,none)::r) s:=by
 simp only[AX,Xq,qV];intro Z z q a w o b;exact Oper.wp_mono (λO N ⟨C,d,h,L,E,p,I,T,v,e⟩=>⟨λ_=>C rfl,_,_,L,v,y d h E,p,I,T,e⟩) (Qdr M B rfl t [] rfl rfl trivial m.1 (F.args m.2) u z q a w o b _)
end
attribute [go_sem] D.idx AW Ob.idx Xe Yb jY AV SI
end Go.Fg
namespace Go.Fg
def eD(a:List (Nat × D)):List Nat->List (Nat × D)
 | []=>[]
 | t::r=>(t,get a t)::eD a r
attribute [go_sem] eD
def Vi{G:Type}(R:Nat->Prop)(V:Nat->G->List (Nat × D))(H:Nat->G->List Ob)(a:List (Nat × D))(i:Nat)(s:St):Prop:=R i/\∃b,s=⟨V i b++a,H i b⟩
def Vi.mk{G:Type}{R}{V}{H}{a}{i}(b:G)(h:R i):Vi R V H a i ⟨V i b++a,H i b⟩:=⟨h,b,rfl⟩
section
variable {P:Program}{base nt:Nat}{w0:Start}{Q:Exit->St->Prop}{k:List Item}
def yB{G:Type}(f)(R)(V:Nat->G->List (Nat × D))(H:Nat->G->List Ob)(N)(b:G){c}{j}{h}{a}(p:eD j f=a)
  (l:Qr w0 ⟨j,h⟩ ⟨V 0 b++a,H 0 b⟩) (n:R 0)
  (d:∀i g,i<=N->R i->Qw P base nt w0 (SH P base nt w0 Q k (Vi R V H a) N i) [.code c] .normal ⟨V i g++a,H i g⟩):Qw P base nt w0 Q (.code (.loop c)::k) .normal ⟨j,h⟩:=
 ZW (Vi R V H a) N l ⟨n,b,rfl⟩ λi s m ⟨o,g,e⟩=>by subst e;exact d i g m o
end
section
variable {P:Program}{base:Nat}{w0:Start}{Q:Exit->St->Prop}{X:Cx}{nt n:Nat}{k k':List Item}{s s':St}
def WS{i N:Nat}(c:i<=N)(b:i<N->hx P base w0 Q X nt n k s)(a:i=N->hx P base w0 Q X nt n k' s'):WQ (decide (i<N)) (hz P base w0 Q X nt n k s) (hz P base w0 Q X nt n k' s'):=
 ⟨λh=>b (by simpa using h),λh=>a (by simp at h;omega)⟩
def WT{i N:Nat}(c:i<=N)(b:i<N->hx P base w0 Q X nt n k s)(a:i=N->hx P base w0 Q X nt n k' s'):WQ (decide ((i:Int)<(N:Int))) (hz P base w0 Q X nt n k s) (hz P base w0 Q X nt n k' s'):=
 ⟨λh=>b (by simpa using h),λh=>a (by simp at h;omega)⟩
def qu{p}[Decidable p](b:p->hx P base w0 Q X nt n k s)(a:¬ p->hx P base w0 Q X nt n k' s'):WQ (decide p) (hz P base w0 Q X nt n k s) (hz P base w0 Q X nt n k' s'):=
 ⟨λh=>b (qQ h),λh=>a (Dg h)⟩
def qv{c:Type}[BEq c][LawfulBEq c]{a b:c}(e:a=b->hx P base w0 Q X nt n k s)(d:a≠b->hx P base w0 Q X nt n k' s'):WQ (a==b) (hz P base w0 Q X nt n k s) (hz P base w0 Q X nt n k' s'):=
 ⟨λh=>e (by simpa using h),λh=>d (by simpa using h)⟩
def qw{c:Type}[BEq c][LawfulBEq c]{a b:c}(e:a≠b->hx P base w0 Q X nt n k s)(d:a=b->hx P base w0 Q X nt n k' s'):WQ (a != b) (hz P base w0 Q X nt n k s) (hz P base w0 Q X nt n k' s'):=
 ⟨λh=>e (by simpa using h),λh=>d (by simpa using h)⟩
def qx{K b}{l a}{p}[Decidable p](d:p->K9 P base w0 X nt K l s)(c:¬ p->K9 P base w0 X nt b a s'):WQ (decide p) (zO P base w0 X nt K l s) (zO P base w0 X nt b a s'):=
 ⟨λh=>d (qQ h),λh=>c (Dg h)⟩
def qy{K e:St->Prop}{l d:List (Bool × Oper × G)}{c:Type}[BEq c][LawfulBEq c]{a b:c}(g:a=b->K9 P base w0 X nt K l s)(f:a≠b->K9 P base w0 X nt e d s'):WQ (a==b) (zO P base w0 X nt K l s) (zO P base w0 X nt e d s'):=
 ⟨λh=>g (by simpa using h),λh=>f (by simpa using h)⟩
def qz{K e:St->Prop}{l d:List (Bool × Oper × G)}{c:Type}[BEq c][LawfulBEq c]{a b:c}(g:a≠b->K9 P base w0 X nt K l s)(f:a=b->K9 P base w0 X nt e d s'):WQ (a != b) (zO P base w0 X nt K l s) (zO P base w0 X nt e d s'):=
 ⟨λh=>g (by simpa using h),λh=>f (by simpa using h)⟩
end
end Go.Fg
namespace Go.Fg
open Go.RowKit (Below)
def rowFrom(b:Nat)(a:Nat->List D):Nat->List D:=λi=>a (b+i)
theorem QoW(a):rowFrom 0 a=a:=by funext i;simp[rowFrom]
theorem He(b)(a)(i):rowFrom b a i=a (b+i):=rfl
mutual
def D.fz(l k n h:Nat)(a:Nat->List D):D->D
 | .ref b g c e=>bif Nat.beq b l then (bif Nat.beq g k&&Nat.ble (c+e) n then .imm h e (rowFrom c a) else .undef) else .ref b g c e
 | .ptr b g i j=>bif Nat.beq b l then (bif Nat.beq g k&&Nat.blt i n&&Nat.ble j h then .ip ((a i).drop j) else .undef) else .ptr b g i j
 | .mref b g=>bif Nat.beq b l then .undef else .mref b g
 | .clo f o m=>.clo f o (zQ l k n h a m)
 | .agg m=>.agg (zQ l k n h a m)
 | .tup m=>.tup (zQ l k n h a m)
 | d=>d
def zQ(l d n b:Nat)(a:Nat->List D):List D->List D
 | []=>[]
 | c::e=>c.fz l d n b a::zQ l d n b a e
end
def xD(l d n c)(a):∀b:List D,(zQ l d n c a b).length=b.length
 | []=>rfl
 | _::b=>by simp[zQ,xD l d n c a b]
def Hf(l e n d)(a):∀(b:List D) (i:Nat),i<b.length->nth (zQ l e n d a b) i=(nth b i).fz l e n d a
 | [],i,h=>by simp at h
 | c::b,0,_=>by simp[zQ,nth]
 | c::b,i+1,h=>by
  have:=Hf l e n d a b i (by simpa using h);simpa[zQ,nth] using this
theorem QoX(l f n e)(d)(c)(a b):zQ l f n e d (bif c then a else b)=bif c then zQ l f n e d a else zQ l f n e d b:=by cases c<;>rfl
def Ow(l c n b:Nat)(a:Nat->List D):List (Nat × D)->List (Nat × D)
 | []=>[]
 | (t,d)::r=>(t,d.fz l c n b a)::Ow l c n b a r
def Qdt(l c n b)(a):∀(e:List (Nat × D)) (t:Nat),get (Ow l c n b a e) t=(get e t).fz l c n b a
 | [],t=>rfl
 | (u,d)::r,t=>by
  simp only[Ow,get];cases Nat.beq u t
  .exact Qdt l c n b a r t
  .rfl
def Ob.fz(l c n b:Nat)(a:Nat->List D)(o:Ob):Ob:=⟨o.kd,o.gen,o.sz,o.n,λi=>zQ l c n b a (o.row i)⟩
def Ox(l c n b:Nat)(a:Nat->List D):List Ob->List Ob
 | []=>[]
 | o::r=>o.fz l c n b a::Ox l c n b a r
def Oy(l c n b)(a):∀h:List Ob,Ox l c n b a h=h.map (Ob.fz l c n b a)
 | []=>rfl
 | o::r=>by simp[Ox,Oy l c n b a r]
def Ob.gone(o:Ob):Ob:=⟨.arr,o.gen+1,o.sz,0,λ_=>[]⟩
section
variable {Z:Nat->Prop}
def QoY{N}{w}(l E n y)(t){d:D}{v}(c:Cl N w d v):Cl N w (d.fz l E n y t) v:=by
 induction c with
 | raw v=>exact .raw v
 | undef v=>exact .undef v
 | nil a=>exact .nil a
 | imm s m r a u b o g C j B q p h=>exact .imm s m r a u b o g C j B q p
 | ip k b o g q p h=>exact .ip k b o g q p
 | clo f z x g j p h=>exact .clo f z _ g (by rw[xD];exact j) (λi e=>by rw[xD]at e;rw[Hf _ _ _ _ _ _ _ e];exact h i e)
 | agg x g j p h=>exact .agg _ g (by rw[xD];exact j) (λi e=>by rw[xD]at e;rw[Hf _ _ _ _ _ _ _ e];exact h i e)
 | tup x g j p h=>exact .tup _ g (by rw[xD];exact j) (λi e=>by rw[xD]at e;rw[Hf _ _ _ _ _ _ _ e];exact h i e)
def QC.fz{h:List Ob}{t:List Pl}{w:World}{l:Nat}{o:Ob}{p:Pl}(ho:h[l]? = some o)(hp:t[l]? = some p)(hk:o.kd.ty=0)(E:∀b q,p=some (b,q)->Z b/\(∀m q',t[m]? = some (some (b,q'))->m=l)/\NN Z h t w o b q)
  (Zx:∀i,i<o.n->(o.row i).all D.XO=true) {h':List Ob} (hh:∀(m:Nat) (B:Ob),m≠l->h[m]? = some B->∃u,h'[m]? = some u/\u.gen=B.gen/\u.sz=B.sz/\u.kd.ty=B.kd.ty) {d:D} {v:Value} (r:QC Z h t w d v) :
  QC Z h' (t.set l none) w (d.fz l o.gen o.n o.sz o.row) v:=by
 have T:∀(m:Nat),m≠l->(t.set l none)[m]? = t[m]? := λm YI=>by rw[JP (Q9 YI)]
 have Oi:∀b,Xy t b->Xy (t.set l none) b:=λb E m q e=>by
  by_cases K:m=l
  .subst K;rw[Xb (Wp hp)]at e;cases e
  .rw[T m K]at e;exact E m q e
 have qm:∀b,free Z t b->free Z (t.set l none) b:=λb E=>⟨E.1,Oi b E.2⟩;have Fk:∀b q,p=some (b,q)->free Z (t.set l none) b:=λb q e=>⟨(E b q e).1,λm q' e'=>by
  by_cases K:m=l
  .subst K;rw[Xb (Wp hp)]at e';cases e'
  .rw[T m K]at e';exact K ((E b q e).2.1 m q' e')⟩
 have Dm:∀b q,p=some (b,q)->∃c el,w.heap[b]? = some (.cells c el (0,0))/\(∀i,i<o.n->(o.row i).length=o.sz)/\∃y:Nat->Nat->Value,∀i j,i<o.n->j<o.sz->w.cell? ⟨b,q+(i*o.sz+j),none⟩=some (y i j)/\Cl (free Z (t.set l none)) w (nth (o.row i) j) (y i j):=λb q e=>by
  obtain⟨c,el,h1,_,h3,h4⟩:=(E b q e).2.2;refine⟨c,el,h1,h3,λi j=>(c[q+(i*o.sz+j)]?).getD Go.undef,λi j n J=>?_⟩;obtain⟨u,hu,hr⟩:=h4 i j n J;refine⟨by rw[cell_of_row w b _ c el (0,0) h1,hu];simp[hu],?_⟩;simp only[hu,Ky];have h5:=Zx i n;rw[zC]at h5;have h6:j<(o.row i).length:=by rw[h3 i n];exact J
  have h7:(nth (o.row i) j).XO=true:=h5 _ (by simp only[nth,QY,QG h6,Ky];exact X0 h6);exact(G4 hr h7).mono λx hx _=>⟨qm x hx,rfl⟩
 induction r with
 | cl d v C=>exact .cl _ _ (QoY l o.gen o.n o.sz o.row (C.mono λb E _=>⟨qm b E,rfl⟩))
 | ref m g s W B O a a0 z F L S I=>
  by_cases e:m=l
  .subst e;rw[ho]at z;cases z;rw[hp]at F;cases F;simp only[D.fz,NF,wi];cases C:(Nat.beq g o.gen&&Nat.ble (s+W) o.n)
   .exact .cl _ _ (.undef _)
   .simp only[wi,ZL,Wo,IK]at C ⊢;rcases I C.1 with ⟨h1,h2⟩|⟨b,q,c,el,U,ha,Hc,JM,Dl⟩
    .subst h1;subst h2;exact .cl _ _ (.imm _ _ _ _ _ 0 0 (λ_ _=>Go.undef) (λh=>ω) ω (λi n=>ω) (λi j n=>ω) (λi j n=>ω))
    .obtain⟨c',cu,k1,k2,y,P⟩:=Dm b q U;refine .cl _ _ (.imm _ _ _ _ _ b (q+s*o.sz) (λi j=>y (s+i) j) (λ_=>ha) Dl (λi n=>k2 _ ω) (λi j n J=>⟨Fk b q U,?_⟩) (λi j n J=>(P (s+i) j ω J).2));rw[<- (P (s+i) j ω J).1,VM,show q+s*o.sz+(i*o.sz+j)=q+(s*o.sz+i*o.sz+j) by omega]
  .have V:Nat.beq m l=false:=by rw[<- Yq,Wo];exact e
   simp only[D.fz,V,jl];obtain⟨u,N,H,Y,M⟩:=hh m B e z;exact .ref m g s W u O a a0 N (by rw[T m e];exact F) (by rw[M];exact L) (by rw[H];exact S) (by rw[H,Y];exact I)
 | ptr m g i j B O a z F L S I=>
  by_cases e:m=l
  .subst e;rw[ho]at z;cases z;rw[hp]at F;cases F;simp only[D.fz,NF,wi];cases C:(Nat.beq g o.gen&&Nat.blt i o.n&&Nat.ble j o.sz)
   .exact .cl _ _ (.undef _)
   .simp only[wi,ZL,Wo,IK,xm]at C ⊢;obtain⟨b,q,U,ha⟩:=I C.1.1;obtain⟨c',cu,k1,k2,y,P⟩:=Dm b q U;subst ha;have a1:((o.row i).drop j).length=o.sz - j:=by rw[aZ,k2 i C.1.2]
    refine .cl _ _ (.ip _ b _ (λk=>y i (j+k)) (λk hk=>⟨Fk b q U,?_⟩) (λk hk=>?_))
    .rw[<- (P i (j+k) C.1.2 ω).1];congr 1;simp
    .rw[GJ];exact(P i (j+k) C.1.2 ω).2
  .have V:Nat.beq m l=false:=by rw[<- Yq,Wo];exact e
   simp only[D.fz,V,jl];obtain⟨u,N,H,Y,M⟩:=hh m B e z;exact .ptr m g i j u O a N (by rw[T m e];exact F) (by rw[M];exact L) (by rw[H];exact S) (by rw[H,Y];exact I)
 | mref m g B O b z F L S I=>
  by_cases e:m=l
  .subst e;rw[ho]at z;cases z;exact absurd hk L.1
  .have V:Nat.beq m l=false:=by rw[<- Yq,Wo];exact e
   simp only[D.fz,V,jl];obtain⟨u,N,H,Y,M⟩:=hh m B e z;exact .mref m g u O b N (by rw[T m e];exact F) (by rw[M];exact L) (by rw[H];exact S) (by rw[H];exact I)
 | clo f nf cs y R hr Q=>exact .clo f nf _ y (by rw[xD];exact R) (λi n=>by rw[xD]at n;rw[Hf _ _ _ _ _ _ _ n];exact Q i n)
 | agg cs y R hr Q=>exact .agg _ y (by rw[xD];exact R) (λi n=>by rw[xD]at n;rw[Hf _ _ _ _ _ _ _ n];exact Q i n)
 | tup cs y R hr Q=>exact .tup _ y (by rw[xD];exact R) (λi n=>by rw[xD]at n;rw[Hf _ _ _ _ _ _ _ n];exact Q i n)
end
def Qr.freeze{B:Start}(L:B.pl=[])(l){M}{h:List Ob}{o:Ob}(H:h[l]? = some o)(K:o.kd.ty=0)(Q:∀i,i<o.n->(o.row i).all D.XO=true):
  Qr B ⟨M,h⟩ ⟨Ow l o.gen o.n o.sz o.row M,(Ox l o.gen o.n o.sz o.row h).set l o.gone⟩:=by
 intro Z z U nt g a w r b;have E:g.length=h.length:=r.o.len;have T:l<g.length:=by have m:=KA H;omega
 have n:g[l]? = some g[l]:=QG T;generalize nF:g[l]=p at n;have O:∀c,Xy B.pl c:=λc i q e=>by rw[L]at e;simp at e
 have W:∀d c q:Nat,g[d]? = some (some (c,q))->B.w.heap.size<=c:=λd c q e=>by
  rcases xn c B.w.heap.size with Qc|Xd
  .exact absurd e ((b.2.1.Ko c (O c) Qc).1 d q)
  .exact Xd
 have S:∀c q,p=some (c,q)->Z c/\(∀d F,g[d]? = some (some (c,F))->d=l)/\NN Z h g w o c q:=λc q e=>by
  subst e;exact⟨b.2.2.own l c q n (W l c q n),λd F e'=>r.o.inj _ _ _ _ _ e' n,(r.o.at_ l o c q H n).2.cells K⟩
 have P:∀(d:Nat) (y:Ob),d≠l->h[d]? = some y->∃u,((Ox l o.gen o.n o.sz o.row h).set l o.gone)[d]? = some u/\u.gen=y.gen/\u.sz=y.sz/\u.kd.ty=y.kd.ty:=λd y N e=>
  ⟨y.fz l o.gen o.n o.sz o.row,by rw[JP (Q9 N),Oy,KP,e];rfl,rfl,rfl,rfl⟩
 have R:∀(d:Nat),d≠l->(g.set l none)[d]? = g[d]? := λd YI=>by rw[JP (Q9 YI)]
 have V:(g.set l none)[l]? = some none:=Xb T;have C:∀d c q:Nat,(g.set l none)[d]? = some (some (c,q))->d≠l/\g[d]? = some (some (c,q)):=λd c q e=>by
  by_cases f:d=l
  .subst f;rw[V]at e;cases e
  .exact⟨f,by rw[<- R d f];exact e⟩
 refine⟨g.set l none,⟨r.nt,r.defers,λt=>?_,⟨?_,λk Y c q F f s=>?_,λk I m f=>?_,λk I c q m f=>?_⟩⟩,b.1,⟨λc hb Qc=>?_,λk I p1 m f=>?_,λk I o2 c q m h2 hg f=>?_⟩,b.2.2.new,λk c q e h0=>b.2.2.own k c q (C _ _ _ e).2 h0⟩
 .show QC Z _ _ w (get (Ow l o.gen o.n o.sz o.row M) t) _;rw[Qdt];exact(r.fr t).fz H n K S Q P
 .simp[Oy,E]
 .exact r.o.inj k Y c q F (C _ _ _ f).2 (C _ _ _ s).2
 .by_cases s:k=l
  .subst s;rw[Xb (by rw[Oy];simp;omega)]at m;cases m;rfl
  .rw[JP (Q9 s),Oy,KP]at m;rw[R k s]at f;obtain⟨u,J,rfl⟩:=X3.1 m;exact r.o.V0 k u J f
 .obtain⟨N,s⟩:=C _ _ _ f;rw[JP (Q9 N),Oy,KP]at m;obtain⟨u,J,rfl⟩:=X3.1 m;obtain⟨g1,x⟩:=r.o.at_ k u c q J s;refine⟨g1,x.to rfl rfl rfl rfl (λi _=>xD _ _ _ _ _ _) λi j v hi hj hr=>?_⟩;show QC Z _ _ w (nth (zQ _ _ _ _ _ (u.row i)) j) v;rw[Hf _ _ _ _ _ _ _ hj];exact hr.fz H n K S Q P
 .obtain⟨k1,k2⟩:=b.2.1.Ko c hb Qc;exact⟨λd q e=>k1 d q (C _ _ _ e).2,k2⟩
 .rw[L]at f;simp at f
 .rw[L]at f;simp at f
attribute [go_sem] QoW He D.fz zQ QoX Ow Ob.fz Ox Ob.gone
end Go.Fg
namespace Go.Fg
def qW(f:D->D->Prop):List D->List D->Prop
 | [],[]=>True
 | a::r,b::s=>f a b/\qW f r s
 | _,_=>False
def JD:Nat->D->D->Prop
 | 0,d,c=>c=d
 | k+1,d,c=>match c with
  | .raw v=>d=.raw v
  | .undef=>True
  | .nil=>d=.nil
  | .imm z n r=>match d with
   | .imm e p h=>z=e/\n=p/\∀i,i<n->qW (JD k) (h i) (r i)
   | .nil=>n=0
   | _=>False
  | .ip b=>match d with
   | .ip a=>qW (JD k) a b
   | _=>False
  | .ref l g o n=>d=.ref l g o n
  | .ptr l g i j=>d=.ptr l g i j
  | .mref l g=>d=.mref l g
  | .clo f m b=>match d with
   | .clo q s a=>f=q/\m=s/\qW (JD k) a b
   | _=>False
  | .agg b=>match d with
   | .agg a=>qW (JD k) a b
   | _=>False
  | .tup b=>match d with
   | .tup a=>qW (JD k) a b
   | _=>False
def vm{f}(h:∀d,f d d):∀l,qW f l l
 | []=>trivial
 | a::r=>⟨h a,vm h r⟩
def qX:∀(k:Nat) (d:D),JD k d d
 | 0,_=>rfl
 | k+1,d=>by cases d<;>simp[JD]<;>first|exact vm (qX k) _|exact λ_ _=>vm (qX k) _
theorem Qo0(k)(l):qW (JD k) l l=True:=eq_true (vm (qX k) l)
def yC{f}:∀{l m:List D},qW f l m->m.length=l.length/\∀i,i<l.length->f (nth l i) (nth m i)
 | [],[],_=>⟨rfl,λi c=>by simp at c⟩
 | [],_::_,h=>h.elim
 | _::_,[],h=>h.elim
 | a::r,b::s,h=>by
  obtain⟨e,d⟩:=yC h.2;refine⟨by simp[e],λi c=>?_⟩;cases i with
  | zero=>exact h.1
  | succ i=>have:=d i (by simpa using c);simpa[nth] using this
def Oz:∀(k:Nat) {N:Nat->Prop} {w:World} {d q:D} {v:Value},JD k d q->Cl N w d v->Cl N w q v
 | 0,_,_,d,q,v,h,c=>by have h:q=d:=h;subst h;exact c
 | k+1,N,w,d,q,v,h,c=>by
  cases q<;>simp only[JD]at h;case raw=>subst h;exact c
  case undef=>exact .undef _
  case nil=>subst h;exact c
  case imm z n r=>
   split at h
   .obtain⟨rfl,rfl,h⟩:=h;cases c with
    | imm _ _ _ a y b o e C s B t g=>
     exact .imm _ _ _ a y b o e C s (λi l=>by rw[(yC (h i l)).1];exact B i l) t (λi j l m=>Oz k ((yC (h i l)).2 j (by rw[B i l];exact m)) (g i j l m))
   .subst h;cases c with
    | nil a=>exact .imm _ _ _ _ _ 0 0 (λ_ _=>Go.undef) (λh=>ω) ω (λi l=>ω) (λi j l=>ω) (λi j l=>ω)
   .exact h.elim
  case ip x=>
   split at h
   .obtain⟨u,p⟩:=yC h;cases c with
    | ip _ b o e t g=>exact .ip _ b o e (λj m=>t j ω) (λj m=>Oz k (p j ω) (g j ω))
   .exact h.elim
  case ref=>subst h;exact c
  case ptr=>subst h;exact c
  case mref=>subst h;exact c
  case clo f E x=>
   split at h
   .obtain⟨rfl,rfl,h⟩:=h;obtain⟨u,p⟩:=yC h;cases c with
    | clo _ _ _ e s g=>exact .clo _ _ _ e ω (λj m=>Oz k (p j ω) (g j ω))
   .exact h.elim
  case agg x=>
   split at h
   .obtain⟨u,p⟩:=yC h;cases c with
    | agg _ e s g=>exact .agg _ e ω (λj m=>Oz k (p j ω) (g j ω))
   .exact h.elim
  case tup x=>
   split at h
   .obtain⟨u,p⟩:=yC h;cases c with
    | tup _ e s g=>exact .tup _ e ω (λj m=>Oz k (p j ω) (g j ω))
   .exact h.elim
def vn:∀(k:Nat) {Z:Nat->Prop} {h:List Ob} {z:List Pl} {w:World} {d m:D} {v:Value},JD k d m->QC Z h z w d v->QC Z h z w m v
 | 0,_,_,_,_,d,m,v,e,c=>by have e:m=d:=e;subst e;exact c
 | k+1,Z,h,z,w,d,m,v,e,c=>by
  cases c with
  | cl _ _ K=>exact .cl _ _ (Oz (k+1) e K)
  | ref l g B C o p a E t s u x q=>
   cases m<;>simp only[JD,reduceCtorEq]at e
   .exact .cl _ _ (.undef _)
   .cases e;exact .ref l g B C o p a E t s u x q
  | ptr l g i j o p a t s u x q=>
   cases m<;>simp only[JD,reduceCtorEq]at e
   .exact .cl _ _ (.undef _)
   .cases e;exact .ptr l g i j o p a t s u x q
  | mref l g o p b t s u x q=>
   cases m<;>simp only[JD,reduceCtorEq]at e
   .exact .cl _ _ (.undef _)
   .cases e;exact .mref l g o p b t s u x q
  | clo f L J n F r=>
   cases m<;>simp only[JD,reduceCtorEq]at e
   .exact .cl _ _ (.undef _)
   .obtain⟨rfl,rfl,e⟩:=e;obtain⟨I,y⟩:=yC e;exact .clo _ _ _ n ω (λj H=>vn k (y j ω) (r j ω))
  | agg J n F r=>
   cases m<;>simp only[JD,reduceCtorEq]at e
   .exact .cl _ _ (.undef _)
   .obtain⟨I,y⟩:=yC e;exact .agg _ n ω (λj H=>vn k (y j ω) (r j ω))
  | tup J n F r=>
   cases m<;>simp only[JD,reduceCtorEq]at e
   .exact .cl _ _ (.undef _)
   .obtain⟨I,y⟩:=yC e;exact .tup _ n ω (λj H=>vn k (y j ω) (r j ω))
def Told(R:D->List Ob->Prop)(d:D)(h:List Ob):Prop:=∃a,JD 6 d a/\R a h
def QM.tell{P}{f}{F}{a}{R}(h:QM P f F a (Told R)):QM P f F a R:=λZ b w e c q p o l n=>
 (h Z b w e c q p o l n).mono λ_ _ ⟨v,d,m,u,k,⟨t,s,r⟩,j,i,g⟩=>⟨v,t,m,u,k,r,j,vn 6 s i,g⟩
def QI.tell{P}{f}{a}{R}(h:QI P f a (Told R)):QI P f a R:=QM.tell h
def QM.Qdu{P}{f}{F}{cs' b}{R}(h:QM P f F b R)(e:qW (JD 6) cs' b):QM P f F cs' R:=λZ a w d c l k j n g=>by
 obtain⟨p,m⟩:=yC e;exact h Z a w d c l k j ω λi o=>vn 6 (m i ω) (g i ω)
def LK(a:List (Nat × D)):List (Nat × D)->Prop
 | []=>True
 | (t,d)::r=>JD 6 (get a t) d/\LK a r
def Qdv{a}:∀{r:List (Nat × D)},LK a r->∀t d,(t,d)∈r->JD 6 (get a t) d
 | [],_,_,_,h=>by cases h
 | (u,e)::r,h,t,d,b=>by
  rcases QF.1 b with h1|h1
  .cases h1;exact h.1
  .exact Qdv h.2 t d h1
def eF(o a:Ob):Prop:=a.gen=o.gen/\a.sz=o.sz/\a.n=o.n/\a.kd.Lr o.kd/\∀i,i<o.n->qW (JD 6) (o.row i) (a.row i)
def LM:List Ob->List Ob->Prop
 | [],[]=>True
 | o::r,b::a=>eF o b/\LM r a
 | _,_=>False
def Qdw:∀{h b:List Ob},LM h b->b.length=h.length/\∀(l:Nat) (a:Ob),b[l]? = some a->∃o,h[l]? = some o/\eF o a
 | [],[],_=>⟨rfl,λl a e=>by simp at e⟩
 | [],_::_,h=>h.elim
 | _::_,[],h=>h.elim
 | o::r,a::i,h=>by
  obtain⟨g,f⟩:=Qdw h.2;refine⟨by simp[g],λl u e=>?_⟩;cases l with
  | zero=>simp at e;subst e;exact⟨o,rfl,h.1⟩
  | succ l=>simp at e;obtain⟨v,d,c⟩:=f l u e;exact⟨v,by simpa using d,c⟩
def Wk.tell{m}{V z}{h E}(hf:LK V z)(B:LM h E):Wk m ⟨V,h⟩ ⟨z,E⟩:=λZ W nt N a w r=>by
 obtain⟨h1,P⟩:=Qdw B;have y:∀(l:Nat) (o:Ob),h[l]? = some o->∃k,E[l]? = some k/\eF o k:=λl o e=>by
  have:l<E.length:=by rw[h1];exact KA e
  obtain⟨o2,n,c⟩:=P l _ (QG this);rw[e]at n;cases n;exact⟨_,QG this,c⟩
 have M:∀{d:D} {v:Value},QC Z h N w d v->QC Z E N w d v:=λr=>by
  induction r with
  | cl d v hc=>exact .cl d v hc
  | ref l g Q R o p a S u s J K I=>
   obtain⟨k,n,c⟩:=y l o u;exact .ref l g Q R k p a S n s (by rw[c.2.2.2.1.1];exact J) (by rw[c.1];exact K) (λe=>by rw[c.2.1];exact I (by rw[e,c.1]))
  | ptr l g i j o p a u s J K I=>
   obtain⟨k,n,c⟩:=y l o u;exact .ptr l g i j k p a n s (by rw[c.2.2.2.1.1];exact J) (by rw[c.1];exact K) (λe=>by rw[c.2.1];exact I (by rw[e,c.1]))
  | mref l g o p b u s J K I=>
   obtain⟨k,n,c⟩:=y l o u;exact .mref l g k p b n s (by rw[c.2.2.2.1.1];exact J) (by rw[c.1];exact K) (λe=>I (by rw[e,c.1]))
  | clo f Y L F B C H=>exact .clo f Y L F B H
  | agg L F B C H=>exact .agg L F B H
  | tup L F B C H=>exact .tup L F B H
 refine⟨N,⟨r.nt,r.defers,λt=>?_,⟨by rw[h1];exact r.o.len,r.o.inj,λl k u s=>?_,λl k b q u s=>?_⟩⟩,λ_ h=>h,λl o p _ u s=>?_⟩
 .rcases QcC z t with h1|h1
  .show QC Z E N w (get z t) _;rw[h1];exact .cl _ _ (.undef _)
  .exact vn 6 (Qdv hf _ _ h1) (M (r.fr t))
 .obtain⟨o,n,c⟩:=P l k u;rw[c.2.2.1];exact r.o.V0 l o n s
 .obtain⟨o,n,c,h5,h6,T,U⟩:=P l k u;obtain⟨g1,x⟩:=r.o.at_ l o b q n s;exact⟨λC=>g1 (by rw[<- T.2,C]),x.to T.1 h5 h6 rfl (λi O=>(yC (U i O)).1) λi j v O hj C=>vn 6 ((yC (U i O)).2 j hj) (M C)⟩
 .obtain⟨k,n,c⟩:=y l o u;exact⟨k,n,s,c.1,c.2.1,c.2.2.2.1.1⟩
def Qr.tell{e}{d a}{h c}(b:LK d a/\LM h c):Qr e ⟨d,h⟩ ⟨a,c⟩:=(Wk.tell b.1 b.2).up
def Qr.toT{d:Start}(k){f a}{h b:List Ob}(c:LK f a/\LM h (b++h.drop k)/\G9 k a=true/\B0 k b/\b.length=k)(g:d.F.length<=k:=by exact RP rfl):Qr d ⟨f,h⟩ ⟨a,b⟩:=by
 refine Qr.trans (Qr.tell ⟨c.1,c.2.1⟩) ?_;have e:(b++h.drop k).take k=b:=by rw[List.take_append_of_le_length ω,List.take_of_length_le ω]
 have:=Wk.drop (m:=d.F.length) k g (fr:=a) (h:=b++h.drop k) c.2.2.1 (by rw[e];exact c.2.2.2.1);rw[e]at this;exact this.up
section
variable {k:Nat}{d:D}
theorem Qo1:JD k d d=True:=eq_true (qX k d)
theorem Qdx{v}:JD (k+1) d (.raw v)=(d=.raw v):=rfl
theorem Qo2:JD (k+1) d .undef=True:=rfl
theorem Qo3:JD (k+1) d .nil=(d=.nil):=rfl
theorem SL{z n a c}{r b}:JD (k+1) (.imm a c b) (.imm z n r)=(z=a/\n=c/\∀i,i<n->qW (JD k) (b i) (r i)):=rfl
theorem Qo4{z n}{r}:JD (k+1) .nil (.imm z n r)=(n=0):=rfl
theorem Qo5{l g o n}:JD (k+1) d (.ref l g o n)=(d=.ref l g o n):=rfl
theorem Qo6{l g i j}:JD (k+1) d (.ptr l g i j)=(d=.ptr l g i j):=rfl
theorem Qo7{l g}:JD (k+1) d (.mref l g)=(d=.mref l g):=rfl
theorem Qo8{b a}:JD (k+1) (.ip a) (.ip b)=qW (JD k) a b:=rfl
theorem Qo9{f c}{b e}{g a}:JD (k+1) (.clo c e a) (.clo f b g)=(f=c/\b=e/\qW (JD k) a g):=rfl
theorem Qdy{b a}:JD (k+1) (.agg a) (.agg b)=qW (JD k) a b:=rfl
theorem Qpa{b a}:JD (k+1) (.tup a) (.tup b)=qW (JD k) a b:=rfl
theorem Qdz{f}:qW f [] []=True:=rfl
theorem oK{f}{a b}{r s}:qW f (a::r) (b::s)=(f a b/\qW f r s):=rfl
end
attribute [go_sem] Qo1 Qdx Qo2 Qo3 SL Qo4 Qo5 Qo6 Qo7 Qo8 Qo9 Qdy Qpa Qdz oK Qo0 LK eF LM
end Go.Fg
