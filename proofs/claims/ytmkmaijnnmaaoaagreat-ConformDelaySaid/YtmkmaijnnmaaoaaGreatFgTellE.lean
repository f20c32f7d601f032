/- Contracts and laws on the way to the statement. No conditions. -/
import Derived.Test.YtmkmaijnnmaaoaaGreatFgMapHE
import Derived.Scope
import Derived.OrdersHeld
set_option maxRecDepth 100000
set_option maxHeartbeats 16000000
set_option linter.unusedVariables false
set_option linter.unusedSimpArgs false
set_option linter.unusedSectionVars false
set_option linter.defProp false
namespace Go.Fg
open Go.RowKit (Below)
variable {Z:Nat->Prop}
structure Cx where
 L:Jr
 E:DG
def yS(X:Cx)(s:St):Op->Ev
 | .move x=>some (True,Qp s.fr x)
 | .assign x=>some (True,Qp s.fr x)
 | .pick c x y=>match Qp s.fr c with
  | .raw (.bool b)=>some (True,bif b then Qp s.fr x else Qp s.fr y)
  | _=>none
 | .binOp g t x y _=>match cG X.L g t (Qp s.fr x) (Qp s.fr y) with
  | some r=>some r
  | none=>dw X.E g t (Qp s.fr x) (Qp s.fr y)
 | .unOp u _ x=>match u,Qp s.fr x with
  | .not,.raw (.bool b)=>some (True,.raw (.bool (!b)))
  | .neg,.raw (.int k n)=>some (True,.raw (.int k (k.wrap (0 - n))))
  | .xor,.raw (.int k n)=>some (True,.raw (.int k (bits .xor k (if k.signed then -1 else k.max) n)))
  | _,_=>none
 | .convert a b x=>cM X.L a b (Qp s.fr x)
 | .build t parts=>match cY X.L s.fr t parts.toList with
  | some d=>some (True,d)
  | none=>none
 | .load t x=>Ls X.L s.h t (Qp s.fr x)
 | .nilCheck x=>bif (Qp s.fr x).there then some (True,Qp s.fr x) else none
 | .fieldAddr t x f=>cH X.L t f (Qp s.fr x)
 | .field t x f=>cI X.L t f (Qp s.fr x)
 | .indexAddr t x i=>cJ X.L s.h t (Qp s.fr x) (Qp s.fr i)
 | .index t x i=>cK X.L t (Qp s.fr x) (Qp s.fr i)
 | .extract x i=>match Qp s.fr x with
  | .tup l=>some (i<l.length,nth l i)
  | _=>none
 | .slice t x p q o=>match o with
  | none=>dc X.L s.fr s.h t (Qp s.fr x) p q
  | some _=>none
 | .makeFunc v first z=>match v,first with
  | .func f,⟨j⟩=>some (True,.clo f j.length ((j++z.toList).map (Qp s.fr)))
  | _,_=>none
 | .call ⟨.builtin b,⟨e⟩,⟨w⟩⟩=>match b,e,w with
  | .len,[x],[t]=>match cO X.L t (Qp s.fr x) with
   | some r=>some r
   | none=>dK X.L s.h t (Qp s.fr x)
  | .max,[x,y],_=>match Qp s.fr x,Qp s.fr y with
   | .raw (.int k m),.raw (.int _ n)=>some (True,.raw (.int k (max m n)))
   | _,_=>none
  | .min,[x,y],_=>match Qp s.fr x,Qp s.fr y with
   | .raw (.int k m),.raw (.int _ n)=>some (True,.raw (.int k (min m n)))
   | _,_=>none
  | _,_,_=>none
 | .lookup t x i h=>match dJ X.L s.h t (Qp s.fr x) (Qp s.fr i) h with
  | some r=>some r
  | none=>bif h then dP X.L X.E s.h t (Qp s.fr x) (Qp s.fr i) else none
 | _=>none
structure q6 (P:Program) (X:Cx):Prop where
 L:Jl P X.L
 E:Ba P X.E
def Qc8{P}{X}(g:q6 P X){base nt}{s}{o:Oper}{p}{d}(h:yS X s o.op=some (p,d))(j:p):WJ P base nt o s d:=by
 unfold yS at h;split at h;case h_1 x e=>simp only[Q4,Zh]at h;obtain⟨rfl,rfl⟩:=h;exact Qcl (.inl e)
 case h_2 x e=>simp only[Q4,Zh]at h;obtain⟨rfl,rfl⟩:=h;exact Qcl (.inr e)
 case h_3 c x y e=>
  split at h
  .rename_i b E;simp only[Q4,Zh]at h;obtain⟨rfl,rfl⟩:=h;exact Qnk e E
  .cases h
 case h_4 H t x y F e=>
  split at h
  .rename_i r l;simp only[Q4]at h;subst h;exact Qnj g.L e l j
  .exact QnT g.E e h
 case h_5 u t x e=>
  split at h
  .rename_i b hx;simp only[Q4,Zh]at h;obtain⟨rfl,rfl⟩:=h;exact Qnr e rfl hx
  .rename_i k n hx;simp only[Q4,Zh]at h;obtain⟨rfl,rfl⟩:=h;exact Qns e rfl hx
  .rename_i k n hx;simp only[Q4,Zh]at h;obtain⟨rfl,rfl⟩:=h;exact Qnt e rfl hx
  .cases h
 case h_6 a b x e=>exact Qnv g.L e h
 case h_7 t parts e=>
  split at h
  .rename_i N C;simp only[Q4,Zh]at h;obtain⟨rfl,rfl⟩:=h;exact QnO g.L e C
  .cases h
 case h_8 t x e=>exact Qco g.L e h j
 case h_9 x e=>
  obtain⟨B,q⟩:=j7 h;simp only[Q4,Zh]at q;obtain⟨rfl,rfl⟩:=q;exact Qnu e rfl B
 case h_10 t x f e=>exact Qnl g.L e h j
 case h_11 t x f e=>exact Qnm g.L e h j
 case h_12 t x i e=>exact Qnp g.L e h j
 case h_13 t x i e=>exact ou g.L e h j
 case h_14 x i e=>
  split at h
  .rename_i O hx;simp only[Q4,Zh]at h;obtain⟨rfl,rfl⟩:=h;exact Qnq e hx j
  .cases h
 case h_15 t x K L J e=>
  split at h
  .exact QnS g.L e h j
  .cases h
 case h_16 M first R e=>
  split at h
  .simp only[Q4,Zh]at h;obtain⟨rfl,rfl⟩:=h;exact Qny e
  .cases h
 case h_17 b w Q e=>
  split at h
  .split at h
   .rename_i r l;simp only[Q4]at h;subst h;exact cP g.L e l
   .exact Qn9 g.L e rfl h j
  .split at h
   .rename_i k m z n hx v;simp only[Q4,Zh]at h;obtain⟨rfl,rfl⟩:=h;exact Qnw e hx v
   .cases h
  .split at h
   .rename_i k m z n hx v;simp only[Q4,Zh]at h;obtain⟨rfl,rfl⟩:=h;exact Qnx e hx v
   .cases h
  .cases h
 case h_18 t x i I e=>
  split at h
  .rename_i r l;simp only[Q4]at h;subst h;exact look_ok g.L e l j
  .obtain⟨rfl,q⟩:=j7 h;exact Qoo g.L g.E e q j
 case h_19=>cases h
def Bf(X:Cx)(s:St):Op->Option (Prop × List Ob × D)
 | .alloc t=>match ty X.L t with
  | some y=>some (True,s.h++[⟨.one,0,(y.zero.map Km).length,1,λ_=>y.zero.map Km⟩],.ptr s.h.length 0 0 0)
  | none=>none
 | .box _ x=>match Yu (Qp s.fr x) with
  | some f=>some (True,s.h++[⟨.one,0,f.length,1,λ_=>f⟩],.ptr s.h.length 0 0 0)
  | none=>none
 | .store t a x=>match SE X.L s.h t (Qp s.fr a) (Qp s.fr x) with
  | some (p,c)=>some (p,c,.undef)
  | none=>none
 | .buildSlice t e parts=>cZ X.L s.fr s.h t e parts.toList
 | .call ⟨.builtin b,⟨d⟩,⟨j⟩⟩=>match b,d,j with
  | .append,[x,y],[t,g]=>bif Nat.beq t g then DE X.L s.h t (Qp s.fr x) (Qp s.fr y) else none
  | .delete,[x,i],[t,_]=>match dM X.L s.h t (Qp s.fr x) (Qp s.fr i) with
   | some (p,c)=>some (p,c,.tup [])
   | none=>none
  | _,_,_=>none
 | .makeMap t h=>match h with
  | none=>Oi X.L s.h t
  | some (.const (.int _ n))=>bif decide (0<=n) then Oi X.L s.h t else none
  | some _=>none
 | .mapUpdate t x i v=>match Ha X.L s.h t (Qp s.fr x) (Qp s.fr i) (Qp s.fr v) with
  | some (p,c)=>some (p,c,.undef)
  | none=>match dQ X.L X.E s.h t (Qp s.fr x) (Qp s.fr i) (Qp s.fr v) with
   | some (p,c)=>some (p,c,.undef)
   | none=>none
 | .range t x=>dN X.L s.h t (Qp s.fr x)
 | _=>none
def Qoq{L}{h}{t:TypeId}{s x}{r}(e:DE L h t s x=some r):s=.nil\/∃l g a b,s=.ref l g a b:=by
 unfold DE at e;split at e
 .split at e
  .exact .inl rfl
  .exact .inr ⟨_,_,_,_,rfl⟩
  .cases e
 .cases e
def Qc9{P}{X}(f:q6 P X){base nt}{s}{o:Oper}{p}{B}{d}(h:Bf X s o.op=some (p,B,d))(j:p):j8 P base nt o s B d:=by
 unfold Bf at h;split at h;case h_1 t c=>
  split at h
  .rename_i y E;simp only[Q4,Zh]at h;obtain⟨rfl,rfl,rfl⟩:=h;exact QnE f.L c E
  .cases h
 case h_2 t x c=>
  split at h
  .rename_i K H;simp only[Q4,Zh]at h;obtain⟨rfl,rfl,rfl⟩:=h;exact QnD c H
  .cases h
 case h_3 t a x c=>
  split at h
  .rename_i u r m;simp only[Q4,Zh]at h;obtain⟨rfl,rfl,rfl⟩:=h;exact QnC f.L c m j
  .cases h
 case h_4 t z parts c=>exact QnP f.L c h j
 case h_5 b C L c=>
  split at h
  .obtain⟨w,q⟩:=j7 h;have w:=Sq w;subst w;rcases Qoq q with e|⟨l,g,I,z,e⟩
   .rw[e]at q;exact QnK f.L c e q j
   .rw[e]at q;exact QnL f.L c e q j
  .split at h
   .rename_i u r m;simp only[Q4,Zh]at h;obtain⟨rfl,rfl,rfl⟩:=h;exact Qob f.L c m j
   .cases h
  .cases h
 case h_6 t J c=>
  split at h
  .exact QcQ f.L (.inl rfl) c h
  .rename_i k n;obtain⟨F,q⟩:=j7 h;exact QcQ f.L (.inr ⟨k,n,rfl,X9 F⟩) c q
  .cases h
 case h_7 t x i v c=>
  split at h
  .rename_i u r m;simp only[Q4,Zh]at h;obtain⟨rfl,rfl,rfl⟩:=h;exact Qoa f.L c m j
  .split at h
   .rename_i u r m;simp only[Q4,Zh]at h;obtain⟨rfl,rfl,rfl⟩:=h;exact Qop f.L f.E c m j
   .cases h
 case h_8 t x c=>exact Qoe f.L c h j
 case h_9=>cases h
abbrev G:=Option (Option Nat × Bool)
def guardOf(a:Array Oper)(o:Oper):G:=match o.guard with
 | none=>none
 | some (j,b)=>some ((a[j]?).bind (·.dst),b)
def strip(o : Oper): Oper := ⟨o.dst, o.op, o.type, "", #[], none⟩
theorem Qor{P}{o:Oper}{a}{w}{K}{Q}:(strip o).wp P a w K Q=o.wp P a w K Q:=rfl
def Cq(a:Array Oper):List (Oper × G):=a.toList.map λo=>(strip o,guardOf a o)
def Ol(a:Array Value)(t:Nat):Option Bool:=match a[t]? with
 | some (.bool b)=>some b
 | _=>none
def XK(g:G)(a:Array Value):Bool:=match g with
 | none=>true
 | some (none,_)=>false
 | some (some t,b)=>Ol a t==some b
def Om(c)(o)(a):Region.wanted o (yielded c a)=XK (guardOf c o) a:=by
 unfold Region.wanted guardOf XK;cases g:o.guard with
 | none=>rfl
 | some e=>
  obtain⟨j,b⟩:=e;dsimp only;cases d:(c[j]?).bind (·.dst) with
  | none=>simp[yielded,d]
  | some t=>
   simp only[yielded,d,cr,Ol];cases f:a[t]? with
   | none=>rfl
   | some v=>cases v<;>rfl
def qp(P:Program)(Q:Exit->Act->World->Prop):List (Oper × G)->Act->World->Prop
 | [],a,w=>Q .normal a w
 | (o,g)::r,a,w=>if XK g a.tmps=true then o.wp P a w (qp P Q r) Q else qp P Q r (a.put o.dst Go.undef) w
def o4{P}{b:Array Oper}{Q}:∀(n i:Nat) (a:Act) (w:World),i+n=b.size->qp P Q ((Cq b).drop i) a w->wpOps P b Q (List.range' i n) a w
 | 0,i,a,w,m,h=>by
  have:(Cq b).drop i=[]:=bG (by simp[Cq];omega);rw[this]at h;exact h
 | n+1,i,a,w,m,h=>by
  have Qc:i<b.size:=ω;have o:(Cq b).drop i=(strip b[i],guardOf b b[i])::(Cq b).drop (i+1):=by
   rw[Sd (by simp[Cq];omega)];simp[Cq]
  rw[o]at h;rw[List.range'_succ];simp only[wpOps,jV Qc,Om];simp only[qp]at h;split at h
  .rename_i g;rw[Qf g];refine .inl ?_;have d:∀(K k:Act->World->Prop),(∀a w,K a w->k a w)->b[i].wp P a w K Q->b[i].wp P a w k Q:=by
    intro K k j c;unfold Oper.wp at *;generalize (execOp a.eval b[i]).run P w=r at *;cases r with
    | ok x l=>
     cases x<;>simp only[Oper.upon]at c ⊢<;>first|exact j _ _ c|exact c|skip
     .exact c.mono λe p f=>by cases e<;>first|exact j _ _ f|exact f
     .exact c.mono λv p f=>j _ _ f
    | halt x l=>cases x<;>exact c
   rw[Qor]at h;exact d _ _ (λa w=>o4 n (i+1) a w ω) h
  .rename_i g;rw[Qe g];exact o4 n (i+1) _ w ω h
def Qos{P}{c}{b}{Q}{a}{w}(h:qp P Q (Cq b) a w):(Code.region c b false).wp P Q a w:=
 wp_region (by rw[List.range_eq_range'];exact o4 b.size 0 a w ω (by simpa using h))
structure Start where
 w:World
 F:List Ob
 pl:List Pl
structure LJ (Z:Nat->Prop) (w0:Start) (pl:List Pl) (w:World):Prop where
 new:∀b,w.heap.size<=b->Z b
 own:∀(l b q:Nat),pl[l]? = some (some (b,q))->w0.w.heap.size<=b->Z b
def LJ.step{Z}{w0}{h h'}{c f}{w a:World}(S:LJ Z w0 c w)(T:Tr h c w h' f a)(o:w.heap.size<=a.heap.size):LJ Z w0 f a where
 new:=λb p=>S.new b ω
 own:=λl b q e n=>by
  rcases B7 b w.heap.size with Qc|g
  .by_cases d:XH c b
   .exact absurd e ((T.Kl b d Qc).1 l q)
   .obtain⟨j,m⟩:=NM.1 d;obtain⟨i,k⟩:=NM.1 m;exact S.own j b i (Classical.not_not.1 k) n
  .exact S.new b g
def LJ.start{Z}{a}{w0:Start}{h}{c}(R:Zo Z a h c w0.w)(d:∀b,w0.w.heap.size<=b->Z b):LJ Z w0 c w0.w where
 new:=d
 own:=λl b q e f=>absurd (R.lt e).1 ω
def Vi(Z:Nat->Prop)(b:Nat)(a:Start)(h:List Ob)(c:List Pl)(w:World):Prop:=Below b a.w w/\Tr a.F a.pl a.w h c w/\LJ Z a c w
def Vi.step{Z}{a}{w0}{h h'}{d e}{w c}(S:Vi Z a w0 h d w)(T:Tr h d w h' e c)(b:Below a w c):Vi Z a w0 h' e c:=⟨S.1.trans b,S.2.1.trans T,S.2.2.step T b.size⟩
section
variable (P:Program)(base nt:Nat)(w0:Start)
def SQ(_:Start)(_:Nat->Prop):Prop:=True
def lift(Z:Nat->Prop)(Q:Exit->St->Prop)(e:Exit)(a:Act)(w:World):Prop:=∃s b,Q e s/\Rel Z base nt s b a w/\Vi Z base w0 s.h b w
def A(c:Code)(Q:Exit->St->Prop)(s:St):Prop:=∀(Z:Nat->Prop),SQ w0 Z->∀b a w,Rel Z base nt s b a w->Vi Z base w0 s.h b w->c.wp P (lift base nt w0 Z Q) a w
def AG(l:List (Oper × G))(Q:Exit->St->Prop)(s:St):Prop:=∀(Z:Nat->Prop),SQ w0 Z->∀b a w,Rel Z base nt s b a w->Vi Z base w0 s.h b w->qp P (lift base nt w0 Z Q) l a w
end
inductive Item where
 | code (c:Code)
 | ops (l:List (Oper × G))
 | inBlock (id:Nat)
 | inScope
def Qw(P:Program)(a d:Nat)(b:Start)(Q:Exit->St->Prop):List Item->Exit->St->Prop
 | [],e,s=>Q e s
 | .code c::k,.normal,s=>A P a d b c (Qw P a d b Q k) s
 | .code _::k,e,s=>Qw P a d b Q k e s
 | .ops l::k,.normal,s=>AG P a d b l (Qw P a d b Q k) s
 | .ops _::k,e,s=>Qw P a d b Q k e s
 | .inBlock id::k,.exit j,s=>if j=id then Qw P a d b Q k .normal s else Qw P a d b Q k (.exit j) s
 | .inBlock _::k,e,s=>Qw P a d b Q k e s
 | .inScope::_,.goto _,_=>False
 | .inScope::k,e,s=>Qw P a d b Q k e s
inductive Tree where
 | done (e:Exit) (s:St)
 | stop (k:List Item) (s:St)
 | vc (p:Prop) (t:Tree)
 | ite (b:Bool) (t e:Tree)
 | fail
def Tree.holds(P:Program)(a d:Nat)(c:Start)(Q:Exit->St->Prop):Tree->Prop
 | .done e s=>Q e s
 | .stop k s=>Qw P a d c Q k .normal s
 | .vc p t=>p/\t.holds P a d c Q
 | .ite b t e=>(b=true->t.holds P a d c Q)/\(b=false->e.holds P a d c Q)
 | .fail=>False
def kj(a:Nat):List Item->Option (List Item)
 | []=>none
 | .inBlock j::k=>bif Nat.beq a j then some k else kj a k
 | _::k=>kj a k
def Zk(a:List (Nat × D))(t:Option Nat)(d:D):List (Nat × D):=match t with
 | none=>a
 | some t=>put a t d
def Zt(a:Nat):Option Nat->Bool
 | none=>true
 | some t=>Nat.blt t a
def Fs:Bool->Bool->Bool
 | true,x=>x
 | false,x=>!x
def Qda(b x):Fs b x=(x==b):=by cases b<;>cases x<;>rfl
def exec(X:Cx)(e:Nat):Nat->List Item->St->Tree
 | 0,k,s=>.stop k s
 | _+1,[],s=>.done .normal s
 | n+1,.inBlock _::k,s=>exec X e n k s
 | n+1,.inScope::k,s=>exec X e n k s
 | n+1,.code c::k,s=>match c with
  | .skip=>exec X e n k s
  | .label _=>exec X e n k s
  | .seq a b=>exec X e n (.code a::.code b::k) s
  | .cond c a b=>match Qp s.fr c with
   | .raw (.bool x)=>.ite x (exec X e n (.code a::k) s) (exec X e n (.code b::k) s)
   | _=>.fail
  | .block id c=>exec X e n (.code c::.inBlock id::k) s
  | .scope c=>exec X e n (.code c::.inScope::k) s
  | .exit id=>match kj id k with
   | some i=>exec X e n i s
   | none=>.done (.exit id) s
  | .ret=>.done .ret s
  | .region id f h=>bif h then .stop (.code (.region id f h)::k) s else exec X e n (.ops (Cq f)::k) s
  | c=>.stop (.code c::k) s
 | n+1,.ops []::k,s=>exec X e n k s
 | n+1,.ops ((o,g)::r)::k,s=>match g with
  | none=>match yS X s o.op with
   | some (p,d)=>bif Zt e o.dst then .vc p (exec X e n (.ops r::k) ⟨Zk s.fr o.dst d,s.h⟩) else .fail
   | none=>match Bf X s o.op with
    | some (p,j,d)=>bif Zt e o.dst then .vc p (exec X e n (.ops r::k) ⟨Zk s.fr o.dst d,j⟩) else .fail
    | none=>.stop (.ops ((o,none)::r)::k) s
  | some (none,_)=>bif Zt e o.dst then exec X e n (.ops r::k) ⟨Zk s.fr o.dst (.raw Go.undef),s.h⟩ else .fail
  | some (some t,b)=>match get s.fr t with
   | .raw (.bool x)=>.ite (Fs b x) (exec X e n (.ops ((o,none)::r)::k) ⟨put s.fr t (.raw (.bool b)),s.h⟩)
     (bif Zt e o.dst then exec X e n (.ops r::k) ⟨Zk (put s.fr t (.raw (.bool (!b)))) o.dst (.raw Go.undef),s.h⟩ else .fail)
   | .raw (.tuple _)=>bif Zt e o.dst then exec X e n (.ops r::k) ⟨Zk s.fr o.dst (.raw Go.undef),s.h⟩ else .fail
   | _=>.fail
section
variable {P:Program}{base nt:Nat}{w0:Start}{Q:Exit->St->Prop}
def A.mono{c}{Q d}{s}(h:A P base nt w0 c Q s)(i:∀e s,Q e s->d e s):A P base nt w0 c d s:=
 λZ z g a w r b=>wp_mono (h Z z g a w r b) λ_ _ _ ⟨f,m,l,k,j⟩=>⟨f,m,i _ _ l,k,j⟩
def Qot{x y}{s}(h:A P base nt w0 x (λe c=>match e with | .normal=>A P base nt w0 y Q c|e=>Q e c) s):A P base nt w0 (.seq x y) Q s:=by
 intro Z z k a w r b;refine wp_seq (wp_mono (h Z z k a w r b) λe n j m=>?_);obtain⟨c,i,g,f,d⟩:=m;cases e with
 | normal=>exact g Z z i n j f d
 | exit id=>exact⟨c,i,g,f,d⟩
 | goto l=>exact⟨c,i,g,f,d⟩
 | ret=>exact⟨c,i,g,f,d⟩
 | panic o=>exact⟨c,i,g,f,d⟩
 | outgrown=>exact⟨c,i,g,f,d⟩
def Qou{n}{c}{s}(h:A P base nt w0 c (λe d=>match e with | .exit j=>if j=n then Q .normal d else Q (.exit j) d|e=>Q e d) s):A P base nt w0 (.block n c) Q s:=by
 intro Z z o a w r b;refine wp_block (wp_mono (h Z z o a w r b) λe u q p=>?_);obtain⟨d,k,f,i,g⟩:=p;cases e with
 | exit j=>
  simp only[Exit.inBlock];dsimp only at f;split
  .rename_i m;rw[Qf m]at f;exact⟨d,k,f,i,g⟩
  .rename_i m;rw[Qe m]at f;exact⟨d,k,f,i,g⟩
 | normal=>exact⟨d,k,f,i,g⟩
 | goto l=>exact⟨d,k,f,i,g⟩
 | ret=>exact⟨d,k,f,i,g⟩
 | panic t=>exact⟨d,k,f,i,g⟩
 | outgrown=>exact⟨d,k,f,i,g⟩
def Qov{c}{s}(h:A P base nt w0 c (λe d=>match e with | .goto _=>False|e=>Q e d) s):A P base nt w0 (.scope c) Q s:=by
 intro Z z m a w r b;refine wp_scope_straight (wp_mono (h Z z m a w r b) λe q o n=>?_);obtain⟨d,k,f,i,g⟩:=n;cases e with
 | goto l=>exact f.elim
 | normal=>exact⟨d,k,f,i,g⟩
 | exit j=>exact⟨d,k,f,i,g⟩
 | ret=>exact⟨d,k,f,i,g⟩
 | panic p=>exact⟨d,k,f,i,g⟩
 | outgrown=>exact⟨d,k,f,i,g⟩
def Qow{c}{k}{s}(h:Qw P base nt w0 Q (.code c::.inScope::k) .normal s):Qw P base nt w0 Q (.code (.scope c)::k) .normal s:=by
 simp only[Qw]at h ⊢;refine Qov (h.mono λe b a=>?_);cases e<;>exact a
def YO{a b}{k}{s}(h:Qw P base nt w0 Q (.code a::.code b::k) .normal s):Qw P base nt w0 Q (.code (.seq a b)::k) .normal s:=by
 simp only[Qw]at h ⊢;refine Qot (h.mono λe d c=>?_);cases e<;>exact c
def Qox{a}{c}{k}{s}(h:Qw P base nt w0 Q (.code c::.inBlock a::k) .normal s):Qw P base nt w0 Q (.code (.block a c)::k) .normal s:=by
 simp only[Qw]at h ⊢;refine Qou (h.mono λe d b=>?_);cases e<;>exact b
def Qoy{c}{x y}{k}{s:St}{t}(h:Qp s.fr c=.raw (.bool t))(g:t=true->Qw P base nt w0 Q (.code x::k) .normal s)(f:t=false->Qw P base nt w0 Q (.code y::k) .normal s):
  Qw P base nt w0 Q (.code (.cond c x y)::k) .normal s:=by
 simp only[Qw]at g f ⊢;intro Z z d a w r b;have e:=r.eval c;rw[h]at e;have:=JJ e;cases t
 .exact wp_cond_false this (f rfl Z z d a w r b)
 .exact wp_cond_true this (g rfl Z z d a w r b)
def SR{d}:∀{k b:List Item} {s:St},kj d k=some b->Qw P base nt w0 Q b .normal s->Qw P base nt w0 Q k (.exit d) s
 | [],b,s,h,_=>by simp[kj]at h
 | .code c::k,b,s,h,a=>by simp only[kj]at h;simp only[Qw];exact SR h a
 | .ops c::k,b,s,h,a=>by simp only[kj]at h;simp only[Qw];exact SR h a
 | .inScope::k,b,s,h,a=>by simp only[kj]at h;simp only[Qw];exact SR h a
 | .inBlock j::k,b,s,h,a=>by
  simp only[kj]at h;simp only[Qw];by_cases e:d=j
  .subst e;simp at h;subst h;rw[Qf rfl];exact a
  .have:Nat.beq d j=false:=by rw[<- qk,WG];exact e
   rw[this]at h;rw[Qe e];exact SR h a
def SS{b}:∀{k:List Item} {s:St},kj b k=none->Q (.exit b) s->Qw P base nt w0 Q k (.exit b) s
 | [],s,_,a=>a
 | .code c::k,s,h,a=>by simp only[kj]at h;simp only[Qw];exact SS h a
 | .ops c::k,s,h,a=>by simp only[kj]at h;simp only[Qw];exact SS h a
 | .inScope::k,s,h,a=>by simp only[kj]at h;simp only[Qw];exact SS h a
 | .inBlock j::k,s,h,a=>by
  simp only[kj]at h;simp only[Qw];by_cases d:b=j
  .subst d;simp at h
  .have:Nat.beq b j=false:=by rw[<- qk,WG];exact d
   rw[this]at h;rw[Qe d];exact SS h a
def SU:∀{k:List Item} {s:St},Q .ret s->Qw P base nt w0 Q k .ret s
 | [],_,a=>a
 | .code _::_,_,a=>by simp only[Qw];exact SU a
 | .ops _::_,_,a=>by simp only[Qw];exact SU a
 | .inBlock _::_,_,a=>by simp only[Qw];exact SU a
 | .inScope::_,_,a=>by simp only[Qw];exact SU a
def vz{t}(h:Zt nt (some t)=true):t<nt:=by simpa[Zt,xH] using h
def Rel.skip{s:St}{b}{a:Act}{w}(r:Rel Z base nt s b a w){t}(c:Zt nt t=true):Rel Z base nt ⟨Zk s.fr t (.raw Go.undef),s.h⟩ b (a.put t Go.undef) w:=by
 cases t with
 | none=>exact r
 | some t=>exact r.to (Tr.ext r.o λ_ _=>rfl) r.o (vz c) (.cl _ _ (.raw _))
def o5{o:Oper}{c}{s:St}{d}(h:WJ P base nt o s d)(f:Zt nt o.dst=true)(i:AG P base nt w0 c Q ⟨Zk s.fr o.dst d,s.h⟩):AG P base nt w0 ((o,none)::c) Q s:=by
 intro Z z e a w r b;obtain⟨v,g,k⟩:=h Z e a w r;simp only[qp,XK,VB];unfold Oper.wp;rw[k w λ_ _=>rfl];simp only[Oper.upon_value];refine i Z z e _ w ?_ b;cases j:o.dst with
 | none=>exact r
 | some t=>rw[j]at f;exact r.to (Tr.ext r.o λ_ _=>rfl) r.o (vz f) g
def dS(C:base<=w0.w.heap.size){o:Oper}{c}{s:St}{j}{d}(h:j8 P base nt o s j d)(l:Zt nt o.dst=true)(m:AG P base nt w0 c Q ⟨Zk s.fr o.dst d,j⟩):AG P base nt w0 ((o,none)::c) Q s:=by
 intro Z z q a w r b;obtain⟨v,i,k,e,g,p,x,n,_⟩:=h Z q a w r (JL C b.1.size);have f:∀u,u=v->Rel Z base nt ⟨Zk s.fr o.dst d,j⟩ k (a.put o.dst u) i:=by
  rintro u rfl;cases B:o.dst with
  | none=>exact r.AW g p u
  | some t=>rw[B]at l;exact r.to g p (vz l) x
 simp only[qp,XK,VB];unfold Oper.wp;rcases e with e|⟨e,y⟩
 .rw[e];simp only[Oper.upon_value];exact m Z z k _ i (f v rfl) (b.step g n)
 .rw[e];simp only[Oper.upon_skip];exact m Z z k _ i (f _ y.symm) (b.step g n)
def o6{a:Array Value}{t}{b}(h:a.getD t Go.undef=.bool b):Ol a t=some b:=by
 unfold Ol;rw[yH]at h;cases c:a[t]? with
 | none=>rw[c]at h;simp[Go.undef]at h
 | some v=>rw[c]at h;simp at h;rw[h]
def o7{a:Array Value}{t}{b}(h:a.getD t Go.undef=.tuple b):Ol a t=none:=by
 unfold Ol;rw[yH]at h;cases c:a[t]? with
 | none=>rfl
 | some v=>rw[c]at h;simp at h;rw[h]
def Rel.tell{s:St}{b}{a:Act}{w}(r:Rel Z base nt s b a w){t}{d}(c:QF Z s.h b w d (a.tmps.getD t Go.undef)):Rel Z base nt ⟨put s.fr t d,s.h⟩ b a w:=
 ⟨r.nt,r.defers,λu=>by
  rw[GV];by_cases h:u=t
  .subst h;rw[Qf rfl];exact c
  .rw[Qe h];exact r.fr u,r.o⟩
def Qoz{o:Oper}{c}{s:St}{t}{b x}(k:get s.fr t=.raw (.bool x))(l:Zt nt o.dst=true\/x=b)
  (p:x=b->AG P base nt w0 ((o,none)::c) Q ⟨put s.fr t (.raw (.bool b)),s.h⟩) (n:x=(!b)->AG P base nt w0 c Q ⟨Zk (put s.fr t (.raw (.bool (!b)))) o.dst (.raw Go.undef),s.h⟩):AG P base nt w0 ((o,some (some t,b))::c) Q s:=by
 intro Z z e a w r h;have g:=r.fr t;rw[k]at g;have f:=JJ g;have m:=o6 f;simp only[qp,XK,m];by_cases d:x=b
 .have:=p d Z z e a w (r.tell (by rw[f,d];exact .cl _ _ (.raw _))) h;simp only[qp,XK,VB]at this;rw[Qf (by simp[d])];exact this
 .have i:x=(!b):=by cases x<;>cases b<;>simp_all
  rw[Qe (by simp[d])];have j:Rel Z base nt ⟨put s.fr t (.raw (.bool (!b))),s.h⟩ e a w:=r.tell (by rw[f,i];exact .cl _ _ (.raw _));exact n i Z z e _ w (j.skip (l.resolve_right d)) h
def Qdb{o:Oper}{c}{s:St}{g:Option Nat × Bool}(j:g.1=none\/∃t d,g.1=some t/\get s.fr t=.raw (.tuple d))(i:Zt nt o.dst=true)(h:AG P base nt w0 c Q ⟨Zk s.fr o.dst (.raw Go.undef),s.h⟩):AG P base nt w0 ((o,some g)::c) Q s:=by
 intro Z z f a w r l;obtain⟨k,b⟩:=g;have:XK (some (k,b)) a.tmps=false:=by
  rcases j with rfl|⟨t,d,rfl,hx⟩
  .rfl
  .have e:=r.fr t;rw[hx]at e;simp[XK,o7 (JJ e)]
 simp only[qp,this,YF,zG];exact h Z z f _ w (r.skip i) l
def vA{X}(j:q6 P X)(m:base<=w0.w.heap.size):∀(n:Nat) (k:List Item) (s:St),(exec X nt n k s).holds P base nt w0 Q->Qw P base nt w0 Q k .normal s
 | 0,k,s,h=>by cases k<;>exact h
 | n+1,[],s,h=>h
 | n+1,.inBlock id::k,s,h=>by
  simp only[exec]at h;simp only[Qw];exact vA j m n k s h
 | n+1,.inScope::k,s,h=>by
  simp only[exec]at h;simp only[Qw];exact vA j m n k s h
 | n+1,.code c::k,s,h=>by
  cases c with
  | skip=>simp only[exec]at h;have:=vA j m n k s h;simp only[Qw];exact λZ z q a w r b=>wp_skip ⟨s,q,this,r,b⟩
  | label l=>simp only[exec]at h;have:=vA j m n k s h;simp only[Qw];exact λZ z q a w r b=>wp_label ⟨s,q,this,r,b⟩
  | seq x y=>simp only[exec]at h;exact YO (vA j m n _ s h)
  | block id c=>simp only[exec]at h;exact Qox (vA j m n _ s h)
  | cond c x y=>
   simp only[exec]at h;split at h
   .rename_i b J;exact Qoy J (λe=>vA j m n _ s (h.1 e)) (λe=>vA j m n _ s (h.2 e))
   .exact h.elim
  | exit id=>
   simp only[exec]at h;simp only[Qw];split at h
   .rename_i H C;have:=SR C (vA j m n H s h);exact λZ z q a w r b=>wp_exit ⟨s,q,this,r,b⟩
   .rename_i C;have:=SS (P:=P) (base:=base) (nt:=nt) (w0:=w0) C h;exact λZ z q a w r b=>wp_exit ⟨s,q,this,r,b⟩
  | ret=>
   simp only[exec]at h;simp only[Qw];exact λZ z q a w r b=>wp_ret ⟨s,q,SU h,r,b⟩
  | region id M L=>
   simp only[exec]at h;cases L
   .have:=vA j m n _ s h;simp only[Qw]at this ⊢;exact λZ z q a w r b=>Qos (this Z z q a w r b)
   .exact h
  | loop c=>exact h
  | rangeFunc f O a b=>exact h
  | scope b=>simp only[exec]at h;exact Qow (vA j m n _ s h)
  | goto l=>exact h
  | refuse w=>exact h
 | n+1,.ops []::k,s,h=>by
  simp only[exec]at h;simp only[Qw];have:=vA j m n k s h;exact λZ z q a w r b=>⟨s,q,this,r,b⟩
 | n+1,.ops ((o,g)::r)::k,s,h=>by
  have u:∀v,Zt nt o.dst=true\/True->(exec X nt n (.ops r::k) v).holds P base nt w0 Q->AG P base nt w0 r (Qw P base nt w0 Q k) v:=λv _ I=>by
   have:=vA j m n (.ops r::k) v I;simpa only[Qw] using this
  cases g with
  | none=>
   simp only[exec]at h;simp only[Qw];split at h
   .rename_i p d B;cases i:Zt nt o.dst
    .rw[i]at h;exact h.elim
    .rw[i]at h;exact o5 (Qc8 j B h.1) i (u _ (.inl i) h.2)
   .split at h
    .rename_i p R d B;cases i:Zt nt o.dst
     .rw[i]at h;exact h.elim
     .rw[i]at h;exact dS m (Qc9 j B h.1) i (u _ (.inl i) h.2)
    .simpa only[Tree.holds,Qw] using h
  | some g=>
   obtain⟨K,b⟩:=g;cases K with
   | none=>
    simp only[exec]at h;simp only[Qw];cases i:Zt nt o.dst
    .rw[i]at h;exact h.elim
    .rw[i]at h;exact Qdb (.inl rfl) i (u _ (.inl i) h)
   | some t=>
    simp only[exec]at h;simp only[Qw];split at h
    .rename_i x hx;simp only[Tree.holds,Qda,jr,j5,ne_eq]at h;have E:=λe=>vA j m n _ _ (h.1 e);simp only[Qw]at E;refine Qoz hx ?_ E λe=>?_
     .by_cases F:x=b
      .exact .inr F
      .have:=h.2 F;cases i:Zt nt o.dst
       .rw[i]at this;exact this.elim
       .exact .inl rfl
     .have:=h.2 (by rw[e];cases b<;>simp);cases i:Zt nt o.dst
      .rw[i]at this;exact this.elim
      .rw[i]at this;exact u _ (.inl i) this
    .rename_i N hx;cases i:Zt nt o.dst
     .rw[i]at h;exact h.elim
     .rw[i]at h;exact Qdb (.inr ⟨t,_,rfl,hx⟩) i (u _ (.inl i) h)
    .exact h.elim
end
variable {Z:Nat->Prop}
mutual
def D.shift(k:Nat):D->D
 | .ref l g b c=>.ref (k+l) g b c
 | .ptr l g i j=>.ptr (k+l) g i j
 | .mref l g=>.mref (k+l) g
 | .clo f e a=>.clo f e (yT k a)
 | .agg a=>.agg (yT k a)
 | .tup a=>.tup (yT k a)
 | d=>d
def yT(k:Nat):List D->List D
 | []=>[]
 | c::a=>c.shift k::yT k a
end
def Ob.shift(k:Nat)(o:Ob):Ob:={ o with row:=λi=>yT k (o.row i) }
def xP(k):∀a:List D,(yT k a).length=a.length
 | []=>rfl
 | _::a=>by simp[yT,xP k a]
def Hj(k):∀(a:List D) (i:Nat),i<a.length->nth (yT k a) i=(nth a i).shift k
 | [],i,h=>by simp at h
 | c::a,0,_=>by simp[yT,nth]
 | c::a,i+1,h=>by
  have:=Hj k a i (by simpa using h);simpa[yT,nth] using this
def QF.join{M}{h h':List Ob}{B t:List Pl}{w}(m:B.length=h.length)(S:∀b,free M t b->free Z (B++t) b){d}{v}(r:QF M h' t w d v):
  QF Z (h++h'.map (Ob.shift h.length)) (B++t) w (d.shift h.length) v:=by
 have L:∀(l:Nat) (o:Ob),h'[l]? = some o->(h++h'.map (Ob.shift h.length))[h.length+l]? = some (o.shift h.length):=λl o e=>by
  rw[Kw ω];simp[e]
 have K:∀(l:Nat) (p:Pl),t[l]? = some p->(B++t)[h.length+l]? = some p:=λl p e=>by
  rw[Kw ω,m];simp[e]
 have V:∀(d:D) (v:Value),Cl (free M t) w d v->QF Z (h++h'.map (Ob.shift h.length)) (B++t) w (d.shift h.length) v:=by
  intro d v u;have Q:=u.mono (N':=free Z (B++t)) (w':=w) (λb T _=>⟨S b T,rfl⟩);clear u;induction Q with
  | raw v=>exact .cl _ _ (.raw v)
  | undef v=>exact .cl _ _ (.undef v)
  | nil a=>exact .cl _ _ (.nil a)
  | imm R n N a y b o k U m x u s q=>exact .cl _ _ (.imm R n N a y b o k U m x u s)
  | ip z b o k u s q=>exact .cl _ _ (.ip z b o k u s)
  | clo f J I k m s q=>exact .clo f J _ k (by rw[xP];exact m) (λi c=>by rw[xP]at c;rw[Hj _ _ _ c];exact q i c)
  | agg I k m s q=>exact .agg _ k (by rw[xP];exact m) (λi c=>by rw[xP]at c;rw[Hj _ _ _ c];exact q i c)
  | tup I k m s q=>exact .tup _ k (by rw[xP];exact m) (λi c=>by rw[xP]at c;rw[Hj _ _ _ c];exact q i c)
 induction r with
 | cl d v u=>exact V d v u
 | ref l g O P o p a y E C F H x=>exact .ref _ g O P _ p a y (L l o E) (K l p C) F H x
 | ptr l g i j o p a E C F H x=>exact .ptr _ g i j _ p a (L l o E) (K l p C) F H x
 | mref l g o p b E C F H x=>exact .mref _ g _ p b (L l o E) (K l p C) F H x
 | clo f J I k m s q=>exact .clo f J _ k (by rw[xP];exact m) (λi c=>by rw[xP]at c;rw[Hj _ _ _ c];exact q i c)
 | agg I k m s q=>exact .agg _ k (by rw[xP];exact m) (λi c=>by rw[xP]at c;rw[Hj _ _ _ c];exact q i c)
 | tup I k m s q=>exact .tup _ k (by rw[xP];exact m) (λi c=>by rw[xP]at c;rw[Hj _ _ _ c];exact q i c)
def Tr.join{a}{h h'}{d k:List Pl}{w i:World}(R:Zo Z a h d w)(j:Below w.heap.size w i)(s:∀(l b q:Nat),k[l]? = some (some (b,q))->w.heap.size<=b):
  Tr h d w (h++h') (d++k) i where
 Kl:=λb m Qc=>by
  refine⟨λl q e=>?_,j.block b Qc⟩;by_cases n:l<d.length
  .rw[JY n]at e;exact m l q e
  .rw[Kw ω]at e;have:=s _ _ _ e;omega
 obj:=λl o p g f=>⟨o,p,by rw[JY (KY g)];exact g,by rw[JY (WR f)];exact f,Qs _,rfl,λ_=>⟨rfl,rfl⟩⟩
 shape:=λl o t b q g v u f c el r=>⟨c,by rw[j.block b (R.lt f).1];exact r,rfl⟩
def Zo.join{C}{d}{h h'}{k m}{w s:World}(R:Zo Z d h k w)(K:d<=w.heap.size)(y:Below w.heap.size w s)(p:Zo C w.heap.size h' m s)
  (H:∀b,free C m b->free Z (k++m) b) (r:∀(l b q:Nat),m[l]? = some (some (b,q))->w.heap.size<=b):Zo Z d (h++h'.map (Ob.shift h.length)) (k++m) s:=by
 have T:=Tr.join (h':=h'.map (Ob.shift h.length)) R y r;refine⟨by simp[R.len,p.len],?_,?_,?_⟩
 .intro l E b q I g f;by_cases e:l<k.length<;>by_cases z:E<k.length
  .rw[JY e]at g;rw[JY z]at f;exact R.inj _ _ _ _ _ g f
  .rw[JY e]at g;rw[Kw ω]at f;have:=(R.lt g).1;have:=r _ _ _ f;omega
  .rw[Kw ω]at g;rw[JY z]at f;have:=(R.lt f).1;have:=r _ _ _ g;omega
  .rw[Kw ω]at g f;have:=p.inj _ _ _ _ _ g f;omega
 .intro l o c a;by_cases e:l<h.length
  .rw[JY e]at c;rw[JY (by rw[R.len];exact e)]at a;exact R.VX l o c a
  .rw[Kw ω]at c;rw[Kw (by rw[R.len];omega),R.len]at a;simp only[KX,WH]at c;obtain⟨n,u,rfl⟩:=c;exact p.VX _ n u a
 .intro l o b q c a;by_cases e:l<h.length
  .rw[JY e]at c;rw[JY (by rw[R.len];exact e)]at a;obtain⟨B,x⟩:=R.at_ l o b q c a;exact⟨B,x.to rfl rfl rfl (y.block b (R.lt a).1) (λ_ _=>rfl) λi j v _ _ t=>t.tr T⟩
  .rw[Kw ω]at c;rw[Kw (by rw[R.len];omega),R.len]at a;simp only[KX,WH]at c;obtain⟨n,u,rfl⟩:=c;obtain⟨B,x⟩:=p.at_ _ n b q u a;refine⟨λ_=>by have:=r _ _ _ a;omega,x.to rfl rfl rfl rfl (λi _=>xP _ _) λi j v J F t=>?_⟩;show QF Z _ _ _ (nth (yT _ (n.row i)) j) v;rw[Hj _ _ _ F];exact t.join R.len H
def QI(P:Program)(f:FuncId)(F:List Ob)(c:List D)(R:D->List Ob->Prop):Prop:=
 ∀(Z:Nat->Prop) (a:Nat) (w:World) (k:List Pl) (j:List Value),a<=w.heap.size->(∀b,w.heap.size<=b->Z b)->Zo Z a F k w ->
  j.length=c.length->(∀i,i<c.length->QF Z F k w (nth c i) (Q5 j i)) ->
  Calls P f j.toArray w λe g=>∃v d h l,e=.returned v/\R d h/\Zo Z a h l g/\QF Z h l g d v/\Tr F k w h l g/\Below a w g
def QI.mono{P}{f}{F}{a}{R c}(h:QI P f F a R)(l:∀d h,R d h->c d h):QI P f F a c:=λZ b w g e r q p o n=>
 (h Z b w g e r q p o n).mono λ_ _ ⟨v,d,m,s,k,j,i⟩=>⟨v,d,m,s,k,l _ _ j,i⟩
def Q9(P:Program)(f:FuncId)(a:List D)(R:D->List Ob->Prop):Prop:=QI P f [] a R
def Q9.mono{P}{f}{a}{R b}(h:Q9 P f a R)(c:∀d h,R d h->b d h):Q9 P f a b:=QI.mono h c
def km:List D->Nat->List (Nat × D)
 | [],_=>[]
 | d::r,i=>(i,d)::km r (i+1)
def Qdc:∀(a:List D) (i t:Nat),get (km a i) t=if i<=t then nth a (t - i) else .undef
 | [],i,t=>by simp[km,get,nth]
 | d::r,i,t=>by
  simp only[km,get];by_cases h:i=t
  .subst h;simp[nth]
  .have:Nat.beq i t=false:=by rw[<- qk,WG];exact h
   rw[this];simp only[js];rw[Qdc r (i+1) t];by_cases b:i+1<=t
   .rw[Qf b,Qf ω];obtain⟨m,rfl⟩:∃m,t=i+(m+1):=⟨t - i - 1,ω⟩;rw[show i+(m+1) - (i+1)=m by omega,show i+(m+1) - i=m+1 by omega];simp[nth]
   .rw[Qe b,Qe ω]
def Ft(L:Jr)(s:St):List ResultVar->Option (Prop × List D)
 | []=>some (True,[])
 | .tmp t::r=>match Ft L s r with
  | some (p,b)=>some (p,get s.fr t::b)
  | none=>none
 | .cell a ty::r=>match Ls L s.h ty (get s.fr a),Ft L s r with
  | some (q,d),some (p,b)=>some (q/\p,d::b)
  | _,_=>none
def one:List D->D
 | [d]=>d
 | a=>.tup a
def Bg(L:Jr)(a:List ResultVar)(R:D->List Ob->Prop):Exit->St->Prop
 | .normal,s | .ret,s=>match Ft L s a with
  | some (p,b)=>p/\R (one b) s.h
  | none=>False
 | _,_=>False
def On(a:Array Value):ResultVar->Sem Value
 | .tmp t=>pure (a.getD t Go.undef)
 | .cell x t=>do loadVar t (<- asAddr (a.getD x Go.undef))
def o8(c:Func)(a):results c a=(do let b <- c.results.mapM (On a);pure (if h:b.size=1 then b[0] else .tuple b)):=by
 unfold results;congr 2
def o9{P}{L}(C:Jl P L){c J}{s}{y}{a}{w}(r:Rel Z c J s y a w):∀(g:List ResultVar) (p:Prop) (f:List D),Ft L s g=some (p,f)->p ->
  ∃e:List Value,e.length=f.length/\(∀i,i<f.length->QF Z s.h y w (nth f i) (Q5 e i)) /\
   (g.mapM (On a.tmps)).run P w=.ok e w
 | [],p,f,h,_=>by simp[Ft]at h;obtain⟨_,rfl⟩:=h;exact⟨[],rfl,λi l=>by simp at l,σ⟩
 | .tmp t::g,p,f,h,m=>by
  simp only[Ft]at h;split at h
  .rename_i q I z;simp only[Q4,Zh]at h;obtain⟨rfl,rfl⟩:=h;obtain⟨e,H,F,E⟩:=o9 C r g _ _ z m;refine⟨a.tmps.getD t Go.undef::e,by simp[H],λi l=>?_,by simp[List.mapM_cons,On,E]⟩;cases i with
   | zero=>exact r.fr t
   | succ i=>have:=F i (by simpa using l);simpa[nth,Q5] using this
  .cases h
 | .cell x t::g,p,f,h,m=>by
  simp only[Ft]at h;split at h
  .rename_i q d S I j z;simp only[Q4,Zh]at h;obtain⟨rfl,rfl⟩:=h;obtain⟨e,H,F,E⟩:=o9 C r g _ _ z m.2;have Q := Qco (P := P) (base := c) (nt := J) (s := s) (o := ⟨none, .load t (.tmp x), 0, "", #[], none⟩) C (t := t) (x := .tmp x) rfl j m.1;obtain⟨v,k,b⟩:=Q Z y a w r;have b:=b w (λ_ _=>rfl);refine⟨v::e,by simp[H],λi l=>?_,?_⟩
   .cases i with
    | zero=>exact k
    | succ i=>have:=F i (by simpa using l);simpa[nth,Q5] using this
   .have hx:=r.fr x;have R:(On a.tmps (.cell x t)).run P w=.ok v w:=by
     simp only[execOp,Act.eval,Instr.loadAt,Sem.run_bind]at b;simp only[On];have O:∃n,a.tmps.getD x Go.undef=.pointer (some n):=by
      unfold Ls at j;split at j
      .cases j
      .split at j
       .rename_i B;rw[B]at hx;obtain⟨_,_,n,k,_⟩:=Fi hx;exact⟨_,k⟩
       .rename_i B;rw[B]at hx;obtain⟨_,_,_,k,_⟩:=Lr hx;exact⟨_,k⟩
       .cases j
     obtain⟨n,K⟩:=O;rw[K]at b ⊢;simp only[Instr.sureAddr,asAddr,Sem.run_bind,Sem.run_pure,Result.andThen_ok]at b ⊢;generalize (loadVar t n).run P w=N at *;cases N with
     | ok u M=>simp only[Result.andThen_ok]at b;cases b;rfl
     | halt x M=>simp only[Result.andThen_halt]at b;cases b
    simp[List.mapM_cons,R,E]
  .cases h
def QoB{P:Program}{L}(U:Jl P L){f}{j:Func}{c}(O:P.funcs[f]? = some j)(S:j.body=some c){F}{b:List D}{R}(hn:b.length<=j.ntmps)
  (h:∀(a:Nat) (w:World) (n:List Pl),a<=w.heap.size->n.length=F.length->A P a j.ntmps ⟨w,F,n⟩ c (Bg L j.results.toList R) ⟨km b 0,F⟩):QI P f F b R:=by
 intro Z a w n o Y T I hl Q;refine calls_of_wp O S ?_;have W:Rel Z a j.ntmps ⟨km b 0,F⟩ n { tmps:=o.toArray++Array.replicate (j.ntmps - o.toArray.size) Go.undef,defers:=[] } w:=by
  refine⟨ξ,rfl,λt=>?_,I⟩;rw[Qdc];simp only[Z9,VB,B8];by_cases K:t<b.length
  .have:=Q t K;have e:(o.toArray++Array.replicate (j.ntmps - o.toArray.size) Go.undef).getD t Go.undef=Q5 o t:=by
    rw[yH,NK ξ];simp[Q5,Q7]
   rw[e];exact this
  .have:nth b t=.undef:=by simp[nth,Q7,B4 (GS K)]
   rw[this];exact .cl _ _ (.undef _)
 refine wp_mono (h a w n Y I.len _ trivial n _ w W ⟨Below.refl _ _,Tr.refl _ _ _,LJ.start (w0:=⟨w,F,n⟩) I T⟩) λe J m N=>?_;obtain⟨x,r,s,y,E,H,_⟩:=N;have z:(match Ft L x j.results.toList with|some (p,B)=>p/\R (one B) x.h|none=>False)->J.defers=[]/\∃v,(results j J.tmps).run P m=.ok v m /\
   ∃v1 d h r,Ending.returned v=.returned v1/\R d h/\Zo Z a h r m/\QF Z h r m d v1/\Tr F n w h r m/\Below a w m:=by
  intro k;split at k
  .rename_i p B Cr;obtain⟨C,g,u,V⟩:=o9 U y _ _ _ Cr k.1;have q:(j.results.mapM (On J.tmps)).run P m=.ok C.toArray m:=by
    rw[Array.mapM_eq_mapM_toList];simp only[Sem.run_map,V,Result.andThen_ok]
   refine⟨y.defers,?_⟩;have JQ:C.toArray.size=C.length:=σ;match B,C,g,u,q,k with
   | [d],[v],_,u,q,k=>
    refine⟨v,?_,v,d,x.h,r,rfl,k.2,y.o,u 0 σ,H,E⟩;rw[o8];simp only[Sem.run_bind];rw[q];simp
   | [],[],_,u,q,k=>
    refine⟨.tuple #[],?_,_,_,x.h,r,rfl,k.2,y.o,.tup [] [] rfl (λi M=>by simp at M),H,E⟩;rw[o8];simp only[Sem.run_bind];rw[q];simp
   | d::d2::B,v::v2::o,g,u,q,k=>
    refine⟨.tuple (v::v2::o).toArray,?_,_,_,x.h,r,rfl,k.2,y.o,.tup _ _ g u,H,E⟩;rw[o8];simp only[Sem.run_bind];rw[q];simp
   | [],_::_,g,_,_,_=>simp at g
   | [_],[],g,_,_,_=>simp at g
   | [_],_::_::_,g,_,_,_=>simp at g
   | _::_::_,[],g,_,_,_=>simp at g
   | _::_::_,[_],g,_,_,_=>simp at g
  .exact k.elim
 cases e with
 | normal=>exact z s
 | ret=>exact z s
 | exit id=>exact s.elim
 | goto l=>exact s.elim
 | panic ch=>exact s.elim
 | outgrown=>exact s.elim
end Go.Fg
namespace Go.Fg
open Go.RowKit (Below)
variable {Z:Nat->Prop}
def D.ko:D->Bool
 | .raw _ | .nil | .imm _ _ _ | .ip _=>true
 | _=>false
def LK{h}{a}{w}{d:D}{v}(r:QF Z h a w d v)(b:d.ko=true):Cl (free Z a) w d v:=by
 cases r with
 | cl _ _ c=>exact c
 | _=>cases b
def YP(f:D->Option (Prop × D)):List D->Option (Prop × List D)
 | []=>some (True,[])
 | d::r=>match f d,YP f r with
  | some (p,c),some (q,a)=>some (p/\q,c::a)
  | _,_=>none
def Wl(h:List Ob):Nat->D->Option (Prop × D)
 | 0,.raw v=>some (True,.raw v)
 | 0,_=>none
 | n+1,d=>match d with
  | .raw v=>some (True,.raw v)
  | .nil=>some (True,.nil)
  | .imm z n r=>some (True,.imm z n r)
  | .ip c=>some (True,.ip c)
  | .ref l g a b=>match h[l]? with
   | some o=>some (g=o.gen/\a+b<=o.n/\∀i,i<b->(o.row (a+i)).all D.ko=true,.imm o.sz b λi=>o.row (a+i))
   | none=>none
  | .ptr l g i j=>match h[l]? with
   | some o=>match YP (Wl h n) ((o.row i).drop j) with
    | some (p,k)=>some (g=o.gen/\i<o.n/\j<=o.sz/\p,.ip k)
    | none=>none
   | none=>none
  | .agg k=>match YP (Wl h n) k with
   | some (p,e)=>some (p,.agg e)
   | none=>none
  | .clo f m k=>match YP (Wl h n) k with
   | some (p,e)=>some (p,.clo f m e)
   | none=>none
  | _=>none
def SV{f:D->Option (Prop × D)}{C:D->Value->Prop}{r:D->Value->Prop}(n:∀d v p c,r d v->f d=some (p,c)->p->C c v):∀(b:List D) (e:List Value) (p:Prop) (a:List D),e.length=b.length->(∀i,i<b.length->r (nth b i) (Q5 e i)) ->
  YP f b=some (p,a)->p->a.length=b.length/\∀i,i<b.length->C (nth a i) (Q5 e i)
 | [],e,p,a,l,j,h,k=>by simp[YP]at h;obtain⟨_,rfl⟩:=h;exact⟨rfl,λi g=>by simp at g⟩
 | d::b,[],p,a,l,j,h,k=>by simp at l
 | d::b,v::e,p,a,l,j,h,k=>by
  simp only[YP]at h;split at h
  .rename_i o c q m w u;simp only[Q4,Zh]at h;obtain⟨rfl,rfl⟩:=h;obtain⟨t,s⟩:=SV n b e q m (by simpa using l) (λi g=>by have:=j (i+1) (by simpa using g);simpa[nth,Q5] using this) u k.2;refine⟨by simp[t],λi g=>?_⟩;cases i with
   | zero=>exact n d v o c (j 0 σ) w k.1
   | succ i=>have:=s i (by simpa using g);simpa[nth,Q5] using this
  .cases h
def dV{N}{a0}{h}{F:List Pl}{w}(R:Zo Z a0 h F w)(dW:∀b,free Z F b->N b)(V:∀l b q:Nat,F[l]? = some (some (b,q))->N b):∀(n:Nat) (d:D) (v:Value) (p:Prop) (c:D),QF Z h F w d v->Wl h n d=some (p,c)->p->Cl N w c v
 | 0,d,v,p,c,r,e,x=>by
  cases d<;>simp only[Wl,reduceCtorEq,Q4,Zh]at e;obtain⟨_,rfl⟩:=e;rw[JJ r];exact .raw _
 | n+1,d,v,p,c,r,e,x=>by
  have y:∀{d:D} {v:Value},Cl (free Z F) w d v->Cl N w d v:=λh=>h.mono λb hb _=>⟨dW b hb,rfl⟩;cases d with
  | raw u=>simp only[Wl,Q4,Zh]at e;obtain⟨_,rfl⟩:=e;exact y (LK r rfl)
  | nil=>simp only[Wl,Q4,Zh]at e;obtain⟨_,rfl⟩:=e;exact y (LK r rfl)
  | imm z k a1=>simp only[Wl,Q4,Zh]at e;obtain⟨_,rfl⟩:=e;exact y (LK r rfl)
  | ip J=>simp only[Wl,Q4,Zh]at e;obtain⟨_,rfl⟩:=e;exact y (LK r rfl)
  | undef=>simp[Wl]at e
  | tup J=>simp[Wl]at e
  | ref l g B K=>
   simp only[Wl]at e;split at e
   .rename_i o P;simp only[Q4,Zh]at e;obtain⟨rfl,rfl⟩:=e;obtain⟨hg,hn,KI⟩:=x;obtain⟨a,a2,t,S⟩:=oA R r (p:=g=o.gen/\B+K<=o.n) (n:=K) (sz:=o.sz) (rows:=λk=>o.row (B+k)) (by simp[SG,P]) ⟨hg,hn⟩;have DD:∀i j,i<K->j<o.sz->(nth (o.row (B+i)) j).ko=true:=λi j m I=>by
     have h1:=KI i m;rw[jo]at h1;have h2:j<(o.row (B+i)).length:=by rw[S.len i m];exact I
     refine h1 _ ?_;simp only[nth,Q7,QT h2,Vn];exact zF h2
    obtain⟨o',p',ad,wE,hv,U,Jg,Z5,vk,KP⟩:=Fh r;rw[P]at U;cases U;have pc:=S.v;rw[hv]at pc;simp only[Value.slice.injEq,AT]at pc;obtain⟨rfl,rfl⟩:=pc;rw[hv];rcases KP hg with ⟨h1,h2⟩|⟨b,q,c,el,VW,wD,hb,hc,Q⟩
    .subst h1;exact .imm _ _ _ _ _ 0 0 (λ_ _=>Go.undef) (λh=>ω) ω (λi m=>ω) (λi j m=>ω) (λi j m=>ω)
    .refine .imm _ _ _ _ _ b (q+B*o.sz) t (λ_=>wD) Q S.len (λi j m I=>⟨V l b q (by rw[Jg,VW]),?_⟩) (λi j m I=>?_)
     .obtain⟨b1,q1,hh,vq⟩:=S.cell i j m I;rw[wD]at hh;simp only[Q4,Addr.mk.injEq,and_true]at hh;obtain⟨rfl,rfl⟩:=hh;exact vq
     .exact y (LK (S.rel i j m I) (DD i j m I))
   .cases e
  | mref l g=>simp[Wl]at e
  | ptr l g i j=>
   simp only[Wl]at e;split at e
   .rename_i o P;split at e
    .rename_i q J W;simp only[Q4,Zh]at e;obtain⟨rfl,rfl⟩:=e;obtain⟨hg,m,I,hq⟩:=x;obtain⟨o',p',ad,hv,U,Jg,Z5,vk,KP⟩:=Fi r;rw[P]at U;cases U;obtain⟨b,M,rfl,rfl⟩:=KP hg;obtain⟨Q6,xx⟩:=R.at_ l o b M P Jg;obtain⟨c,el,hb,Lw,Kx,ZN⟩:=xx.cells Z5;have E:((o.row i).drop j).length=o.sz - j:=by rw[bJ,Kx i m]
     let t:List Value:=(List.range (o.sz - j)).map λk=>(c[M+(i*o.sz+(j+k))]?).getD Go.undef;have Y:∀k,k<o.sz - j->Q5 t k=(c[M+(i*o.sz+(j+k))]?).getD Go.undef:=λk H=>by simp[t,Q5,Q7,H]
     obtain⟨k1,O⟩:=SV (r:=λd v=>QF Z h F w d v) (C:=λd v=>Cl N w d v) (λd v p c s T x=>dV R dW V n d v p c s T x) _ t q J (by simp[t,E]) (λk H=>by
      rw[E]at H;obtain⟨u,hu,s⟩:=ZN i (j+k) m ω;rw[GZ,Y k H,hu];exact s) W hq
     rw[hv];rw[E]at k1 O;refine .ip _ b _ (λk=>Q5 t k) (λk H=>⟨V l b M Jg,?_⟩) (λk H=>O k ω);rw[k1]at H;obtain⟨u,hu,s⟩:=ZN i (j+k) m ω;rw[cell_of_row w b _ c el (0,0) hb,Y k H,hu,Vn,show M+(i*o.sz+j)+k=M+(i*o.sz+(j+k)) by omega,hu]
    .cases e
   .cases e
  | agg J=>
   simp only[Wl]at e;split at e
   .rename_i q L W;simp only[Q4,Zh]at e;obtain⟨rfl,rfl⟩:=e;obtain⟨t,rfl,Q,s⟩:=Lq r;obtain⟨k1,O⟩:=SV (r:=λd v=>QF Z h F w d v) (C:=λd v=>Cl N w d v) (λd v p c s T x=>dV R dW V n d v p c s T x) J t _ L Q s W x;exact .agg _ _ ω (λi m=>O i ω)
   .cases e
  | clo f nf J=>
   simp only[Wl]at e;split at e
   .rename_i q L W;simp only[Q4,Zh]at e;obtain⟨rfl,rfl⟩:=e;obtain⟨t,rfl,Q,s⟩:=n8 r;obtain⟨k1,O⟩:=SV (r:=λd v=>QF Z h F w d v) (C:=λd v=>Cl N w d v) (λd v p c s T x=>dV R dW V n d v p c s T x) J t _ L Q s W x;exact .clo _ _ _ _ ω (λi m=>O i ω)
   .cases e
def QoD{a}{h}{b}{w}(R:Zo Z a h b w)(n)(d)(v)(p:Prop)(c)(r:QF Z h b w d v)(e:Wl h n d=some (p,c))(f:p):Cl (λ_=>True) w c v:=
 dV R (λ_ _=>trivial) (λ_ _ _ _=>trivial) n d v p c r e f
mutual
def D.flat:D->Bool
 | .raw _ | .nil | .ref _ _ _ _ | .ptr _ _ _ _ | .mref _ _=>true
 | .agg a=>Hl a
 | .tup a=>Hl a
 | .clo _ _ a=>Hl a
 | _=>false
def Hl:List D->Bool
 | []=>true
 | d::r=>d.flat&&Hl r
end
def Hm:∀{b:List D},Hl b=true->∀i,i<b.length->(nth b i).flat=true
 | [],_,i,h=>by simp at h
 | d::r,a,i,h=>by
  simp only[Hl,ZX]at a;cases i with
  | zero=>exact a.1
  | succ i=>have:=Hm a.2 i (by simpa using h);simpa[nth] using this
def QF.dY{Z'}{h}{B}{w}{d:D}{v}(r:QF Z h B w d v)(e:d.flat=true):QF Z' h B w d v:=by
 induction r with
 | cl d v E=>
  have:∀{d:D} {v:Value},Cl (free Z B) w d v->d.flat=true->QF Z' h B w d v:=by
   intro d v E;induction E with
   | raw v=>exact λ_=>.cl _ _ (.raw v)
   | undef v=>intro e;simp[D.flat]at e
   | nil a=>exact λ_=>.cl _ _ (.nil a)
   | imm=>intro e;simp[D.flat]at e
   | ip=>intro e;simp[D.flat]at e
   | clo f C q k n t m=>exact λe=>.clo f C q k n λi c=>m i c (Hm (by simpa[D.flat] using e) i c)
   | agg q k n t m=>exact λe=>.agg q k n λi c=>m i c (Hm (by simpa[D.flat] using e) i c)
   | tup q k n t m=>exact λe=>.tup q k n λi c=>m i c (Hm (by simpa[D.flat] using e) i c)
  exact this E e
 | ref l g F H o p a I x u y z s=>exact .ref l g F H o p a I x u y z s
 | ptr l g i j o p a x u y z s=>exact .ptr l g i j o p a x u y z s
 | mref l g o p b x u y z s=>exact .mref l g o p b x u y z s
 | clo f C q k n t m=>exact .clo f C q k n λi c=>m i c (Hm (by simpa[D.flat] using e) i c)
 | agg q k n t m=>exact .agg q k n λi c=>m i c (Hm (by simpa[D.flat] using e) i c)
 | tup q k n t m=>exact .tup q k n λi c=>m i c (Hm (by simpa[D.flat] using e) i c)
def Ob.flat(o:Ob):Prop:=∀i,i<o.n->Hl (o.row i)=true
def Zo.dY{Z'}{a}{h}{c}{w}(R:Zo Z a h c w)(m:∀o∈h,o.flat):Zo Z' a h c w where
 len:=R.len
 inj:=R.inj
 VX:=R.VX
 at_:=λl o b q d f=>by
  obtain⟨n,x⟩:=R.at_ l o b q d f;exact⟨n,x.to rfl rfl rfl rfl (λ_ _=>rfl) λi j v k g e=>e.dY (Hm (m o (NR d) i k) j g)⟩
def Qn(P:Program)(f:FuncId):Prop:=∀(a:Array Value) (w:World),(callFunc f a).run P w=.ok (.enter f a) w
def JU:D->Option (FuncId × Nat × List D)
 | .raw (.func (.func f) ⟨[]⟩ ⟨[]⟩)=>some (f,0,[])
 | .clo f a b=>some (f,a,b)
 | _=>none
section
variable {P:Program}{base nt:Nat}{w0:Start}{Q:Exit->St->Prop}
def SX{h}{g}{w}{d}{v}{f}{c}{b}(r:QF Z h g w d v)(e:JU d=some (f,c,b)):
  ∃a:List Value,v=.func (.func f) (a.take c).toArray (a.drop c).toArray/\a.length=b.length/\∀i,i<b.length->QF Z h g w (nth b i) (Q5 a i):=by
 unfold JU at e;split at e
 .simp only[Q4,Zh]at e;obtain⟨rfl,rfl,rfl⟩:=e;exact⟨[],JJ r,rfl,λi j=>by simp at j⟩
 .simp only[Q4,Zh]at e;obtain⟨rfl,rfl,rfl⟩:=e;exact n8 r
 .cases e
def Jm{b:Type}(c:Nat)(d a:List b):List b:=d.take c++(a++d.drop c)
def SY{r:D->Value->Prop}{nf:Nat}{a args:List D}{b us:List Value}(f:b.length=a.length)(e:∀i,i<a.length->r (nth a i) (Q5 b i))(d:us.length=args.length)(g:∀i,i<args.length->r (nth args i) (Q5 us i)):
  (Jm nf b us).length=(Jm nf a args).length/\∀i,i<(Jm nf a args).length->r (nth (Jm nf a args) i) (Q5 (Jm nf b us) i):=by
 refine⟨by simp[Jm,f,d],λi j=>?_⟩;have h:(b.take nf).length=(a.take nf).length:=by simp[f]
 simp only[Jm,nth,Q5,Q7];by_cases c:i<(a.take nf).length
 .rw[JY (l₁:=a.take nf) c,JY (l₁:=b.take nf) ω];have c2:i<nf/\i<a.length:=by simp at c;omega
  rw[X7,X7,Qf c2.1,Qf c2.1];exact e i c2.2
 .rw[Kw (l₁:=a.take nf) ω,Kw (l₁:=b.take nf) ω,h];by_cases c2:i - (a.take nf).length<args.length
  .rw[JY (l₁:=args) c2,JY (l₁:=us) ω];exact g _ c2
  .rw[Kw (l₁:=args) ω,Kw (l₁:=us) ω,d];rw[GO,GO];refine e _ ?_;simp only[Jm,ZT,List.length_take,bJ]at j c c2 ⊢;omega
def SZ{o:Oper}{a:Act}{x}{b}{j:Array TypeId}{f}{d:Nat}{c:List Value}(i:Qn P f)(h:o.op=.call ⟨.value x,b,j⟩)(g:a.eval x=.func (.func f) (c.take d).toArray (c.drop d).toArray)(w):
  (execOp a.eval o).run P w=.ok (.enter f (Jm d c (b.toList.map a.eval)).toArray) w:=by
 have e:(Jm d c (b.toList.map a.eval)).toArray=(c.take d).toArray++b.map a.eval++(c.drop d).toArray:=by apply Array.ext';simp[Jm]
 rw[e];simp[execOp,h,resolve,g,Deferred.ofValue,invoke,i _ w]
def Qde(Q6:base<=w0.w.heap.size){o:Oper}{s}{x}{g}{Zv:Array TypeId}{f}{u}{V}(hf:Qn P f)(ho:o.op=.call ⟨.value x,g,Zv⟩)
  (hx:JU (Qp s.fr x)=some (f,u,V)) {n:Nat} {p:Prop} {H:List D} (J2:YP (Wl s.h n) (Jm u V (g.toList.map (Qp s.fr)))=some (p,H)) (B:p) {R:D->List Ob->Prop} (hF:Q9 P f H R)
  (LL:∀d h,R d h->d.flat=true/\∀o∈h,o.flat) (O:Zt nt o.dst=true) (k:List Pl) (a:Act) (w:World) (r:Rel Z base nt s k a w) (b:Vi Z base w0 s.h k w) (Q':Exit->Act->World->Prop) :
  o.wp P a w (λU m=>Ext w m/\∃d h j,R d h/\Rel Z base nt ⟨Zk s.fr o.dst (d.shift s.h.length),s.h++h.map (Ob.shift s.h.length)⟩ j U m/\Vi Z base w0 (s.h++h.map (Ob.shift s.h.length)) j m/\Tr s.h k w (s.h++h.map (Ob.shift s.h.length)) j m/\∃v,U=a.put o.dst v) Q':=by
 obtain⟨M,hv,wO,Fu⟩:=SX (r.eval x) hx;have L:base<=w.heap.size:=JL Q6 b.1.size;obtain⟨q1,q2⟩:=SY (r:=λd v=>QF Z s.h k w d v) (nf:=u) wO Fu (us:=g.toList.map a.eval) (args:=g.toList.map (Qp s.fr)) σ (λi y=>by
  have JR:i<g.toList.length:=by simpa using y
  simp only[nth,Q5,Q7,KX];rw[QT JR];exact r.eval _)
 obtain⟨k1,k2⟩:=SV (r:=λd v=>QF Z s.h k w d v) (C:=λd v=>Cl (λ_=>True) w d v) (λd v p c hr E B=>QoD r.o n d v p c hr E B) _ (Jm u M (g.toList.map a.eval)) p H q1 q2 J2 B;have hc:=hF (λ_=>True) w.heap.size w [] (Jm u M (g.toList.map a.eval)) (Qs _) (λ_ _=>trivial) ⟨rfl,λl l' b q q' e=>by simp at e,λl o e=>by simp at e,λl o b q e=>by simp at e⟩ ω (λi y=>.cl _ _ ((k2 i ω).mono λb _ _=>⟨⟨trivial,λl q e=>by simp at e⟩,rfl⟩));unfold Oper.wp;rw[SZ hf ho hv w];simp only[Oper.upon_enter];refine hc.mono λe m E=>?_;obtain⟨v,d,F,j,rfl,S,hO,hV,J,z⟩:=E;obtain⟨f1,f2⟩:=LL d F S;have K:=hO.dY (Z':=λ_=>False) f2;have I:=hV.dY (Z':=λ_=>False) f1;have N:∀b,free (λ_=>False) j b->free Z (k++j) b:=λb hb=>hb.1.elim;have Y:∀(l b q:Nat),j[l]? = some (some (b,q))->w.heap.size<=b:=λl b q e=>by
  rcases B7 b w.heap.size with Qc|qq
  .exact absurd e ((J.Kl b (λl q e=>by simp at e) Qc).1 l q)
  .exact qq
 have T:=Tr.join (h':=F.map (Ob.shift s.h.length)) r.o z Y;have W:=Zo.join r.o L z K N Y;refine⟨λi y=>z.block i y,d,F,k++j,S,?_,b.step T (z.mono L),T,v,rfl⟩;cases hd:o.dst with
 | none=>exact r.AW T W v
 | some t=>rw[hd]at O;exact r.to T W (vz O) (I.join r.o.len N)
def QoH(K:base<=w0.w.heap.size){o:Oper}{c}{s}{x}{e}{I:Array TypeId}{f}{g}{j}(B:Qn P f)(v:o.op=.call ⟨.value x,e,I⟩)
  (q:JU (Qp s.fr x)=some (f,g,j)) {n:Nat} {p:Prop} {i:List D} (M:YP (Wl s.h n) (Jm g j (e.toList.map (Qp s.fr)))=some (p,i)) (u:p) {R:D->List Ob->Prop} (E:Q9 P f i R)
  (L:∀d h,R d h->d.flat=true/\∀o∈h,o.flat) (t:Zt nt o.dst=true) (y:∀d h,R d h->AG P base nt w0 c Q ⟨Zk s.fr o.dst (d.shift s.h.length),s.h++h.map (Ob.shift s.h.length)⟩):AG P base nt w0 ((o,none)::c) Q s:=by
 intro Z z m a w r b;simp only[qp,XK,VB];exact Oper.wp_mono (λH k ⟨_,d,h,J,C,l,F,_⟩=>y d h C Z z J H k l F) (Qde K B v q M u E L t m a w r b _)
def DK(m:Nat)(h:List Ob)(c:List Pl)(e:List Ob)(d:List Pl):Prop:=
 (∀b,XH c b->XH d b)/\∀(l:Nat) (o:Ob) (p:Pl),l<m->h[l]? = some o->c[l]? = some p->∃a,e[l]? = some a/\d[l]? = some p/\a.gen=o.gen/\a.sz=o.sz/\a.kd.ty=o.kd.ty
def DK.refl(m)(h)(a):DK m h a h a:=⟨λ_ h=>h,λ_ o p _ c b=>⟨o,c,b,rfl,rfl,rfl⟩⟩
def DK.trans{m}{h h' c}{d f g}(a:DK m h d h' f)(b:DK m h' f c g):DK m h d c g:=
 ⟨λx hx=>b.1 x (a.1 x hx),λl o p e u t=>by
  obtain⟨j,B,z,y,w,v⟩:=a.2 l o p e u t;obtain⟨i,s,r,q,n,k⟩:=b.2 l j p e B z;exact⟨i,s,r,by rw[q,y],by rw[n,w],by rw[k,v]⟩⟩
def Tr.keep{F h H:List Ob}{d s I}{w0 w}{m}(T:Tr F d w0 h s w)(B:F.length<=m)(K:DK m h s H I):Tr F d w0 H I w where
 Kl:=λb k Qc=>⟨K.1 b (T.Kl b k Qc).1,(T.Kl b k Qc).2⟩
 obj:=λl o p a j=>by
  obtain⟨g,f,n,r,L,E,C⟩:=T.obj l o p a j;obtain⟨t,i,z,J,v,u⟩:=K.2 l g f (wy (KY a) B) n r;exact⟨t,f,i,z,ω,by rw[u,E],λe=>by obtain⟨x,y⟩:=C ω;exact⟨by rw[v,x],y⟩⟩
 shape:=λl o O b q a M N j c el k=>by
  obtain⟨g,f,n,r,L,E,C⟩:=T.obj l o _ a j;obtain⟨t,i,z,J,v,u⟩:=K.2 l g f (wy (KY a) B) n r;rw[M]at i;cases i;exact T.shape l o g b q a n ω j c el k
def Wk(m:Nat)(s b:St):Prop:=∀(Z:Nat->Prop) (base nt:Nat) c a w,Rel Z base nt s c a w->∃d,Rel Z base nt b d a w/\DK m s.h c b.h d
def Wk.refl{m}(s):Wk m s s:=λ_ _ _ a _ _ r=>⟨a,r,.refl _ _ _⟩
def Wk.trans{m}{s d e}(h:Wk m s d)(k:Wk m d e):Wk m s e:=λZ b n g a w r=>
 let ⟨i,f,K⟩:=h Z b n g a w r;let ⟨j,c,l⟩:=k Z b n i a w f
 ⟨j,c,K.trans l⟩
def Vi.keep{h f}{a g}{w}(b:Vi Z base w0 h a w)(K:DK w0.F.length h a f g):Vi Z base w0 f g w:=⟨b.1,b.2.1.keep (Qs _) K,b.2.2.new,λl c q e n=>by
 by_cases d:XH a c
 .exact absurd e (K.1 c d l q)
 .obtain⟨j,m⟩:=NM.1 d;obtain⟨i,k⟩:=NM.1 m;exact b.2.2.own j c i (Classical.not_not.1 k) n⟩
def QH(w0:Start)(s b:St):Prop:=∀(Z:Nat->Prop),SQ w0 Z->∀(base nt:Nat) c a w,Rel Z base nt s c a w->Vi Z base w0 s.h c w->∃d,Rel Z base nt b d a w/\Vi Z base w0 b.h d w
def Wk.up{s c}(h:Wk w0.F.length s c):QH w0 s c:=λZ _ base nt e a w r b=>let ⟨f,d,K⟩:=h Z base nt e a w r;⟨f,d,b.keep K⟩
def QH.refl(s):QH w0 s s:=λ_ _ _ _ a _ _ r b=>⟨a,r,b⟩
def QH.trans{s c e}(h:QH w0 s c)(k:QH w0 c e):QH w0 s e:=λZ z d n g a w r b=>
 let ⟨j,f,i⟩:=h Z z d n g a w r b
 k Z z d n j a w f i
def A.YQ{c}{s d}(h:QH w0 s d)(k:A P base nt w0 c Q d):A P base nt w0 c Q s:=λZ z f a w r b=>let ⟨i,e,g⟩:=h Z z base nt f a w r b;k Z z i a w e g
def AG.YQ{l}{s c}(h:QH w0 s c)(k:AG P base nt w0 l Q c):AG P base nt w0 l Q s:=λZ z e a w r b=>let ⟨g,d,f⟩:=h Z z base nt e a w r b;k Z z g a w d f
def DL{c}{k}{s a}(h:QH w0 s a)(b:Qw P base nt w0 Q (.code c::k) .normal a):Qw P base nt w0 Q (.code c::k) .normal s:=by
 simp only[Qw]at b ⊢;exact b.YQ h
def Hn(a:List (Nat × D)):List (Nat × D)->Prop
 | []=>True
 | (t,d)::r=>get a t=d/\Hn a r
def Qdg{a}:∀{r:List (Nat × D)},Hn a r->∀t d,(t,d)∈r->get a t=d
 | [],_,_,_,h=>by cases h
 | (u,e)::r,h,t,d,b=>by
  rcases QG.1 b with h1|h1
  .cases h1;exact h.1
  .exact Qdg h.2 t d h1
def Qdh(b)(u):get b u=.undef\/(u,get b u)∈b:=by
 induction b with
 | nil=>exact .inl rfl
 | cons x r a=>
  obtain⟨t,d⟩:=x;simp only[get];by_cases h:t=u
  .subst h;simp
  .have:Nat.beq t u=false:=by rw[<- qk,WG];exact h
   rw[this];rcases a with a|a
   .exact .inl (by simpa using a)
   .exact .inr (by simp[a])
def Wk.frame{m}{c fr'}{h}(d:Hn c fr'):Wk m ⟨c,h⟩ ⟨fr',h⟩:=λZ base nt b a w r=>
 ⟨b,⟨r.nt,r.defers,λt=>by
  rcases Qdh fr' t with h1|h1
  .show QF Z h b w (get fr' t) _;rw[h1];exact .cl _ _ (.undef _)
  .have:=Qdg d _ _ h1;show QF Z h b w (get fr' t) _;rw[<- this];exact r.fr t,r.o⟩,.refl _ _ _⟩
def Kd.S3(k a:Kd):Prop:=k.ty=a.ty/\k.ro=a.ro
def Oo(o a:Ob):Prop:=a.gen=o.gen/\a.sz=o.sz/\a.n=o.n/\a.kd.S3 o.kd/\∀i,i<o.n->a.row i=o.row i
def Cs:List Ob->List Ob->Prop
 | [],[]=>True
 | o::r,b::a=>Oo o b/\Cs r a
 | _,_=>False
def dZ:∀{h b:List Ob},Cs h b->b.length=h.length/\∀(l:Nat) (a:Ob),b[l]? = some a->∃o,h[l]? = some o/\Oo o a
 | [],[],_=>⟨rfl,λl a e=>by simp at e⟩
 | [],_::_,h=>h.elim
 | _::_,[],h=>h.elim
 | o::r,a::i,h=>by
  obtain⟨g,f⟩:=dZ h.2;refine⟨by simp[g],λl u e=>?_⟩;cases l with
  | zero=>simp at e;subst e;exact⟨o,rfl,h.1⟩
  | succ l=>simp at e;obtain⟨v,d,c⟩:=f l u e;exact⟨v,by simpa using d,c⟩
def QF.Ho{h E}{J}{w}(n:Cs h E){d}{v}(r:QF Z h J w d v):QF Z E J w d v:=by
 obtain⟨O,N⟩:=dZ n;have q:∀(l:Nat) (o:Ob),h[l]? = some o->∃k,E[l]? = some k/\Oo o k:=λl o e=>by
  have:l<E.length:=by rw[O];exact KY e
  obtain⟨R,m,c⟩:=N l _ (QT this);rw[e]at m;cases m;exact⟨_,QT this,c⟩
 induction r with
 | cl d v M=>exact .cl d v M
 | ref l g F H o p a I y x z B u=>
  obtain⟨k,m,c⟩:=q l o y;exact .ref l g F H k p a I m x (by rw[c.2.2.2.1.1];exact z) (by rw[c.1];exact B) (λe=>by rw[c.2.1];exact u (by rw[e,c.1]))
 | ptr l g i j o p a y x z B u=>
  obtain⟨k,m,c⟩:=q l o y;exact .ptr l g i j k p a m x (by rw[c.2.2.2.1.1];exact z) (by rw[c.1];exact B) (λe=>by rw[c.2.1];exact u (by rw[e,c.1]))
 | mref l g o p b y x z B u=>
  obtain⟨k,m,c⟩:=q l o y;exact .mref l g k p b m x (by rw[c.2.2.2.1.1];exact z) (by rw[c.1];exact B) (λe=>u (by rw[e,c.1]))
 | clo f L C s n K t=>exact .clo f L C s n t
 | agg C s n K t=>exact .agg C s n t
 | tup C s n K t=>exact .tup C s n t
def Wk.Ho{m}{fr}{h y}(n:Cs h y):Wk m ⟨fr,h⟩ ⟨fr,y⟩:=λZ base nt E a w r=>by
 obtain⟨C,u⟩:=dZ n;refine⟨E,⟨r.nt,r.defers,λt=>(r.fr t).Ho n,⟨by rw[C];exact r.o.len,r.o.inj,λl g c f=>?_,λl g b q c f=>?_⟩⟩,λ_ h=>h,λl o p _ c f=>?_⟩
 .obtain⟨o,e,d⟩:=u l g c;rw[d.2.2.1];exact r.o.VX l o e f
 .obtain⟨o,e,d,H,F,z,B⟩:=u l g c;obtain⟨I,x⟩:=r.o.at_ l o b q e f;exact⟨λk=>I (by rw[<- z.2,k]),x.to z.1 H F rfl (λi s=>by rw[B i s]) λi j v s _ k=>by rw[B i s];exact k.Ho n⟩
 .have Qc:l<y.length:=by rw[C];exact KY c
  obtain⟨J,e,d⟩:=u l _ (QT Qc);have c:h[l]? = some o:=c;rw[c]at e;cases e;exact⟨_,QT Qc,f,d.1,d.2.1,d.2.2.2.1.1⟩
mutual
def D.upto(k:Nat):D->Bool
 | .ref l _ _ _=>Nat.blt l k
 | .ptr l _ _ _=>Nat.blt l k
 | .mref l _=>Nat.blt l k
 | .clo _ _ a=>Ct k a
 | .agg a=>Ct k a
 | .tup a=>Ct k a
 | _=>true
def Ct(k:Nat):List D->Bool
 | []=>true
 | d::r=>d.upto k&&Ct k r
end
def Oq{k}:∀{b:List D},Ct k b=true->∀i,i<b.length->(nth b i).upto k=true
 | [],_,i,h=>by simp at h
 | d::r,a,i,h=>by
  simp only[Ct,ZX]at a;cases i with
  | zero=>exact a.1
  | succ i=>have:=Oq a.2 i (by simpa using h);simpa[nth] using this
def QF.take{h:List Ob}{E:List Pl}{w}{k}{d:D}{v}(r:QF Z h E w d v)(m:d.upto k=true):QF Z (h.take k) (E.take k) w d v:=by
 have L:∀b,free Z E b->free Z (E.take k) b:=λb F=>⟨F.1,λl q e=>by
  rw[X7]at e;split at e
  .exact F.2 l q e
  .cases e⟩
 induction r with
 | cl d v N=>exact .cl d v (N.mono λb F _=>⟨L b F,rfl⟩)
 | ref l g H I o p a J x u y B t=>
  have:l<k:=by simpa[D.upto,xH] using m
  exact .ref l g H I o p a J (by rw[X7,Qf this];exact x) (by rw[X7,Qf this];exact u) y B t
 | ptr l g i j o p a x u y B t=>
  have:l<k:=by simpa[D.upto,xH] using m
  exact .ptr l g i j o p a (by rw[X7,Qf this];exact x) (by rw[X7,Qf this];exact u) y B t
 | mref l g o p b x u y B t=>
  have:l<k:=by simpa[D.upto,xH] using m
  exact .mref l g o p b (by rw[X7,Qf this];exact x) (by rw[X7,Qf this];exact u) y B t
 | clo f M C n z K s=>exact .clo f M C n z λi c=>s i c (Oq (by simpa[D.upto] using m) i c)
 | agg C n z K s=>exact .agg C n z λi c=>s i c (Oq (by simpa[D.upto] using m) i c)
 | tup C n z K s=>exact .tup C n z λi c=>s i c (Oq (by simpa[D.upto] using m) i c)
def Hp(k:Nat):List (Nat × D)->Bool
 | []=>true
 | (_,d)::r=>d.upto k&&Hp k r
def Qdi{k}:∀{a:List (Nat × D)},Hp k a=true->∀t,(get a t).upto k=true
 | [],_,t=>rfl
 | (u,d)::r,h,t=>by
  simp only[Hp,ZX]at h;simp only[get];cases Nat.beq u t
  .exact Qdi h.2 t
  .exact h.1
def Cu(k:Nat):List Ob->Prop
 | []=>True
 | o::r=>(∀i,i<o.n->Ct k (o.row i)=true)/\Cu k r
def pe{k}:∀{h:List Ob},Cu k h->∀(l:Nat) (o:Ob),h[l]? = some o->∀i,i<o.n->Ct k (o.row i)=true
 | [],_,l,o,e=>by simp at e
 | o::r,h,l,u,e=>by
  cases l with
  | zero=>simp at e;subst e;exact h.1
  | succ l=>simp at e;exact pe h.2 l u e
def Wk.drop{m}(k)(J:m<=k){fr}{h:List Ob}(E:Hp k fr=true)(C:Cu k (h.take k)):Wk m ⟨fr,h⟩ ⟨fr,h.take k⟩:=λZ base nt pl a w r=>by
 have f:∀(l:Nat) (p:Pl),(pl.take k)[l]? = some p->pl[l]? = some p:=λl p e=>by
  rw[X7]at e;split at e
  .exact e
  .cases e
 have g:∀(l:Nat) (o:Ob),(h.take k)[l]? = some o->h[l]? = some o:=λl o e=>by
  rw[X7]at e;split at e
  .exact e
  .cases e
 refine⟨pl.take k,⟨r.nt,r.defers,λt=>(r.fr t).take (Qdi E t),⟨by simp[r.o.len],λl s b q n I H=>r.o.inj l s b q n (f _ _ I) (f _ _ H),λl o c d=>r.o.VX l o (g _ _ c) (f _ _ d),λl o b q c d=>?_⟩⟩,
  λb B l q e=>B l q (f _ _ e),λl o p K c d=>⟨o,by show (h.take k)[l]? = _;rw[X7,Qf ω];exact c,by rw[X7,Qf ω];exact d,rfl,rfl,rfl⟩⟩
 obtain⟨F,x⟩:=r.o.at_ l o b q (g _ _ c) (f _ _ d);exact⟨F,x.to rfl rfl rfl rfl (λ_ _=>rfl) λi j v z y u=>u.take (Oq (pe C l o c i z) j y)⟩
def Wk.Dx{m}{f}{h:List Ob}(t g)(c)(k:get f t=.nil):Wk m ⟨f,h⟩ ⟨put f t (.ref h.length 0 0 0),h++[⟨.arr,0,g,0,c⟩]⟩:=λZ base nt d a w r=>by
 have T:Tr h d w (h++[⟨.arr,0,g,0,c⟩]) (d++[none]) w:=Tr.push r.o (λ_ _=>rfl) _ _ (by intro b q e;cases e);refine⟨d++[none],⟨r.nt,r.defers,λu=>?_,r.o.Dx _ rfl⟩,λb v=>Sy v (λq e=>by cases e),λl o p _ s n=>⟨o,Cb s,Cb n,rfl,rfl,rfl⟩⟩;show QF Z _ _ w (get (put f t (.ref h.length 0 0 0)) u) _;rw[GV];by_cases i:u=t
 .subst i;rw[Qf rfl];have:=r.fr u;have this:QF Z h d w (get f u) (a.tmps.getD u Go.undef):=this;rw[k]at this;obtain⟨x,j⟩:=Ff this;rw[j];have y:d.length=h.length:=r.o.len;exact .ref _ _ _ _ ⟨.arr,0,g,0,c⟩ none x 0 σ (by rw[<- y];simp) rfl (Qs _) (λ_=>.inl ⟨rfl,rfl⟩)
 .rw[Qe i];exact(r.fr u).tr T
def eh(P:Program)(base nt:Nat)(w0:Start)(Q:Exit->St->Prop)(k:List Item)(I:Nat->St->Prop)(m:Nat):Exit->St->Prop
 | .normal,s=>∃b a,b<m/\QH w0 s a/\I b a
 | e,s=>Qw P base nt w0 Q k e s
def QoJ{p:Nat->Prop}:∀n,p n->∃m,p m/\∀k,p k->m<=k:=by
 intro n;induction n using Nat.strongRecOn with
 | _ n b=>
  intro d;by_cases h:∃k,k<n/\p k
  .obtain⟨k,a,c⟩:=h;exact b k a c
  .exact⟨n,d,λk a=>GS λQc=>h ⟨k,Qc,a⟩⟩
def ei{p:Nat->Prop}(h:∃n,p n):∃m,p m/\∀k,p k->m<=k:=let ⟨n,a⟩:=h;QoJ n a
open Classical in
def Ot{c}{k}{s s0}(I)(K)(R:QH w0 s s0)(V:I K s0)(d:∀m s,I m s->Qw P base nt w0 (eh P base nt w0 Q k I m) [.code c] .normal s):Qw P base nt w0 Q (.code (.loop c)::k) .normal s:=by
 simp only[Qw];refine A.YQ R ?_;intro Z z u a w r b;let J:Nat->Act->World->Prop:=λm a w=>∃s u,I m s/\Rel Z base nt s u a w/\Vi Z base w0 s.h u w;let o:Act->World->Nat:=λa w=>if h:∃m,J m a w then Classical.choose (ei h) else 0;refine wp_loop (λa w=>∃m,J m a w) o ⟨K,s0,u,V,r,b⟩ λa w y=>?_;have S:=(Classical.choose_spec (ei y)).1;have E:o a w=Classical.choose (ei y):=by simp only[o];rw[dif_pos y]
 obtain⟨M,C,U,O,Y⟩:=S;have:=d _ M U;simp only[Qw]at this;refine wp_mono (this Z z C a w O Y) λe x t T=>?_;obtain⟨q,n,i,f,j⟩:=T;cases e with
 | normal=>
  obtain⟨g,L,Qc,F,H⟩:=i;obtain⟨B,N,W⟩:=F Z z base nt n x t f j;have v:J g x t:=⟨L,B,H,N,W⟩;refine⟨⟨g,v⟩,?_⟩;rw[E];have:o x t<=g:=by simp only[o];rw[dif_pos ⟨g,v⟩];exact(Classical.choose_spec (ei (p:=λm=>J m x t) ⟨g,v⟩)).2 g v
  omega
 | exit id=>exact⟨q,n,i,f,j⟩
 | goto l=>exact⟨q,n,i,f,j⟩
 | ret=>exact⟨q,n,i,f,j⟩
 | panic ch=>exact⟨q,n,i,f,j⟩
 | outgrown=>exact⟨q,n,i,f,j⟩
end
end Go.Fg
namespace Go.Fg
def QoN{P}{a d}{b}{Q}{c}{s}(h:Qw P a d b Q [.code c] .normal s):A P a d b c Q s:=by
 simp only[Qw]at h;exact h.mono λe g f=>by cases e<;>exact f
def Qdk{P:Program}{X}(j:q6 P X){f}{i:Func}{c}(n)(o:P.funcs[f]? = some i)(p:i.body=some c){F}{b:List D}{R}{g}(k:i.ntmps=g)(m:b.length<=g)
  (h:∀(a:Nat) (w:World) (e:List Pl),a<=w.heap.size->e.length=F.length->(exec X g n [.code c] ⟨km b 0,F⟩).holds P a g ⟨w,F,e⟩ (Bg X.L i.results.toList R)):QI P f F b R:=
 QoB j.L o p (by rw[k];exact m) λa w e l d=>QoN (by rw[k];exact vA j l n _ _ (h a w e l d))
end Go.Fg
namespace Go.Fg
open Go.RowKit (Below)
variable {Z:Nat->Prop}
inductive Cw (ops:Array Oper) (Zx:Array Bool) (i:Nat):Nat->Prop
 | S4 (j:Nat) (oj:Oper) (e:Edge) (hj:ops[j]? = some oj) (he:e∈oj.after) (hb:Region.binds .any e=true) (h:e.on=i):Cw ops Zx i j
 | step (j:Nat) (oj:Oper) (e:Edge) (hj:ops[j]? = some oj) (he:e∈oj.after) (hb:Region.binds .any e=true) (hu:Zx.getD e.on true=false) (h:Cw ops Zx i e.on):Cw ops Zx i j
def both{b:Array Bool}{i}(h:b.getD i true=false):b.getD i false=false:=by
 rcases B7 i b.size with a|a
 .simp[a]at h ⊢;exact h
 .simp[Array.getElem?_eq_none a]at h
def Cw.Qdl{a}{g:Array Bool}{i j}(h:Cw a g i j)(o:g.getD i true=false):j ∉ Region.ready .any a g:=by
 intro n;obtain⟨_,p,b,k⟩:=mem_ready.1 n;cases h with
 | S4 _ l e c d f h=>
  rw[c]at b;cases b;have:=k e d f;rw[h,both o]at this;cases this
 | step _ l e c d f m h=>
  rw[c]at b;cases b;have:=k e d f;rw[both m]at this;cases this
def Cw.set{a}{b:Array Bool}{i j k}(h:Cw a b i j)(p:b.getD i true=false)(o:k∈Region.ready .any a b):Cw a (b.setIfInBounds k true) i j:=by
 induction h with
 | S4 j c e d f g h=>exact .S4 j c e d f g h
 | step j c e d f g n h m=>
  refine .step j c e d f g ?_ m;have:k≠e.on:=λl=>by subst l;exact h.Qdl p o
  rw[getD_set_ne true this];exact n
def Bh(P:Program)(b:Array Oper)(N:Act->World->Prop)(e:Nat->World->World->Prop):Nat->Array Bool->Act->World->Prop
 | 0,c,a,w=>Region.ready .any b c=[]/\N a w
 | n+1,c,a,w=>(Region.ready .any b c=[]->N a w) /\
  ∀i∈Region.ready .any b c,wpOp P b (λ_ _ _=>False) i (λf d=>e i w d/\Bh P b N e n (c.setIfInBounds i true) f d) a w
def QoP{P}{o:Oper}{a}{w}{K}{Q}(h:o.wp P a w K (λ_ _ _=>False)):o.wp P a w K Q:=by
 unfold Oper.wp at *;generalize (execOp a.eval o).run P w=r at *;cases r with
 | ok n c=>
  cases n<;>simp only[Oper.upon]at h ⊢<;>first|exact h|skip
  .exact Calls.mono h λe d b=>by cases e<;>first|exact b|exact b.elim|exact(let ⟨_,_,h⟩:=b;h.elim)
 | halt x c=>cases x<;>simp only[Oper.upon]at h ⊢<;>exact h.elim
def ez{P}{c}{N}{p}{Q}(b:∀a w,N a w->Q .normal a w):∀(n:Nat) (g:Array Bool) (a:Act) (w:World),Bh P c N p n g a w->wpAny P .any c Q n g a w
 | 0,_,_,_,h=>⟨h.1,b _ _ h.2⟩
 | n+1,g,a,w,h=>⟨λe=>b _ _ (h.1 e),λi j=>by
  have:=h.2 i j;unfold wpOp at this ⊢;split
  .rename_i f;simp only[f]at this;exact ez b n _ _ _ this.2
  .rename_i o f;simp only[f]at this;split
   .rename_i d;simp only[d,VB]at this;rcases this with l|⟨_,_,_,k⟩
    .exact .inl (QoP (Oper.wp_mono (λr q m=>ez b n _ _ _ m.2) l))
    .exact k.elim
   .rename_i d;simp only[d]at this;exact ez b n _ _ _ this.2⟩
def still(L:Jr)(o:Oper):Bool:=match o.op with
 | .extract ..=>true
 | .move _=>true
 | .nilCheck _=>true
 | .fieldAddr t _ f=>match N9 L t f with
  | some (_,y)=>!Nat.beq y.size 0
  | none=>false
 | _=>false
def QoQ{P}{L}(q:Jl P L){o:Oper}(c:still L o=true){d}{w}{v}(h:(execOp d o).run P w=.ok (.value v) w)(j):(execOp d o).run P j=.ok (.value v) j:=by
 unfold still at c;split at c
 .rename_i x i b;simp only[execOp,b,Instr.extract]at h ⊢;split at h<;>first|skip|(simp at h)
  all_goals (first|(split at h<;>first|(simp at h)|skip)|skip)
  all_goals (first|(simp at h ⊢;exact h)|simp_all)
 .rename_i x b;simp only[execOp,b]at h ⊢;simp at h ⊢;exact h
 .rename_i x b;exact((VC.nilCheck b d) w _ w h).2 j
 .rename_i t x f b;split at c
  .rename_i s y p;obtain⟨g,r,k,l,_,n⟩:=og q p;have m:y.size≠0:=λe=>by rw[e]at c;cases c
   cases hx:d x with
   | pointer a=>
    cases a with
    | some a=>
     have e:∀w:World,(execOp d o).run P w=.ok (.value (.pointer (some (a.add r.offset)))) w:=λw=>by
      simp[execOp,b,hx,Instr.fieldAt,run_underlying k,l,Instr.sureAddr,fieldPlace,n.sizeOf,m]
     rw[e w]at h;rw[e j];simp at h ⊢;exact h
    | none=>simp[execOp,b,hx,Instr.fieldAt,run_underlying k,l,Instr.sureAddr,stuck]at h
   | _=>simp[execOp,b,hx,Instr.fieldAt,run_underlying k,l,Instr.sureAddr,stuck]at h
  .cases c
 .cases c
def QoR{P}{c:Array Oper}{N}{x}{i}{p}{v}{S}(I:∀w,x i w w)(z:c[i]? = some p)(L:∀(j:Nat) (o:Oper) q b,c[j]? = some o->o.op≠.select q b):
  ∀(d:Nat) (e:Array Bool) (a:Act) (m:World),S m ->
   (∀j n,c[j]? = some n->j≠i->e.getD j true=false->Cw c e i j\/((∀w s,x j w s->S w->S s)/\p.apart c n=true)) ->
   i∈Region.ready .any c e->YieldsIf P c S p v a ->
   Bh P c N x d (e.setIfInBounds i true) (a.put p.dst v) m->Bh P c N x (d+1) e a m:=by
 intro d;induction d with
 | zero=>
  intro e a m y _ g t H;refine⟨λh=>(by rw[h]at g;cases g),λj l=>?_⟩;by_cases f:j=i
  .subst f;exact t.wpOp z y ⟨I _,H⟩
  .have:=ready_mono l f;rw[H.1]at this;cases this
 | succ d Q=>
  intro e a m y K g t H;have M:=(mem_ready.1 g).1;refine⟨λh=>(by rw[h]at g;cases g),λj l=>?_⟩;by_cases f:j=i
  .subst f;exact t.wpOp z y ⟨I _,H⟩
  .have U:=H.2 j (ready_mono l f);obtain⟨F,n,C,KI⟩:=mem_ready.1 l;obtain⟨LP,Y⟩:=(K j n C f F).resolve_left λB=>B.Qdl M l;have T:=wpOp_putIf C Y (λq b=>L i p q b z) (λq b=>L j n q b C) (λ_ _ _ h=>h) t U;refine wpOp_mono (λV s u=>?_) T;refine⟨u.2.1,Q (e.setIfInBounds j true) V s (LP _ _ u.2.1 y) (λk O R W r=>?_) (ready_mono g (Q8 f)) u.1 ?_⟩
   .have E:e.getD k true=false:=by
     by_cases J:j=k
     .subst J;exact F
     .rw[getD_set_ne true J]at r;exact r
    exact(K k O R W E).imp (λB=>B.set M l) id
   .rw[Array.setIfInBounds_comm _ _ f];exact u.2.2
def Vb(i:Nat):List Nat->Bool
 | []=>false
 | j::r=>Nat.beq i j || Vb i r
def xQ{i}:∀{l:List Nat},Vb i l=true↔i∈l
 | []=>by simp[Vb]
 | j::r=>by simp[Vb,xQ (l:=r)]
def eC(i:Nat):List Edge->Bool
 | []=>false
 | e::r=>(Region.binds .any e&&Nat.beq e.on i) || eC i r
def vC(done:List Nat):List Edge->Bool
 | []=>false
 | e::r=>(Region.binds .any e&&!Vb e.on done) || vC done r
def Oy(a:Array Oper)(done:List Nat)(i:Nat):Nat->List Edge->Bool
 | 0,_=>false
 | _+1,[]=>false
 | n+1,e::r=>(Region.binds .any e&&(Nat.beq e.on i || (!Vb e.on done&&match a[e.on]? with
   | some o=>Oy a done i n o.after.toList
   | none=>false))) || Oy a done i n r
def DM(o:Oper):Bool:=match o.op with
 | .load ..=>true
 | _=>false
def DN(o:Oper):Bool:=match o.op with
 | .insert ..=>true
 | _=>false
def S5(d:List Nat)(L:Jr)(a:Array Oper)(done:List Nat)(i:Nat)(c:Oper):List (Nat × Bool × Option Oper)->Bool
 | []=>true
 | (j,_,some b)::r=>(eC i b.after.toList || (((calm b&&!Vb j d) || still L c || (DM c&&DN b))&&c.apart a b) || Oy a done i (4*a.size) b.after.toList)&&S5 d L a done i c r
 | (_,_,none)::_=>false
def eD(l:List Nat):Nat->Bool
 | 0=>true
 | n+1=>Vb n l&&eD l n
def Qdn{l}:∀{n:Nat},eD l n=true->∀j,j<n->j∈l
 | 0,_,j,h=>ω
 | n+1,h,j,a=>by
  simp only[eD,ZX,xQ]at h;by_cases e:j=n
  .subst e;exact h.1
  .exact Qdn h.2 j ω
def Qdo{i}:∀{l:List Edge},eC i l=true->∃e∈l,Region.binds .any e=true/\e.on=i
 | [],h=>by cases h
 | e::r,h=>by
  simp only[eC,B3,ZX,WG]at h;rcases h with h|h
  .exact⟨e,σ,h.1,h.2⟩
  .obtain⟨c,b,a⟩:=Qdo h;exact⟨c,by simp[b],a⟩
def Qdp{done}:∀{l:List Edge},vC done l=true->∃e∈l,Region.binds .any e=true/\e.on ∉ done
 | [],h=>by cases h
 | e::r,h=>by
  simp only[vC,B3,ZX,jl]at h;rcases h with h|h
  .exact⟨e,σ,h.1,λa=>by rw[xQ.2 a]at h;cases h.2⟩
  .obtain⟨d,c,b⟩:=Qdp h;exact⟨d,by simp[c],b⟩
def eF{done}:∀{l:List Edge},vC done l=false->∀e∈l,Region.binds .any e=true->e.on∈done
 | [],_,e,h,_=>by cases h
 | e::r,h,c,b,a=>by
  simp only[vC,Ds,Lf]at h;rcases QG.1 b with h1|h1
  .subst h1;rcases h.1 with h2|h2
   .rw[a]at h2;cases h2
   .exact xQ.1 (by simpa using h2)
  .exact eF h.2 c h1 a
structure Marks (ops:Array Oper) (Zx:Array Bool) (done:List Nat):Prop where
 size:Zx.size=ops.size
 get:∀j,j<ops.size->(Zx.getD j true=false↔j ∉ done)
 get':∀j,Zx.getD j false=true↔j∈done/\j<ops.size
 lt:∀j,j∈done->j<ops.size
def Marks.set{a:Array Oper}{d:Array Bool}{done}(M:Marks a d done){i}(c:i<a.size):Marks a (d.setIfInBounds i true) (i::done) where
 size:=by simp[M.size]
 get:=λj b=>by
  by_cases e:i=j
  .subst e;simp[M.size,c]
  .rw[getD_set_ne true e,M.get j b];simp[Q8 e]
 get':=λj=>by
  by_cases e:i=j
  .subst e;simp[M.size,c]
  .rw[getD_set_ne false e,M.get' j];simp[Q8 e]
 lt:=λj b=>by
  rcases QG.1 b with e|e
  .subst e;exact c
  .exact M.lt j e
def zN(o:Oper):Bool:=match o.op with
 | .alloc _=>true
 | .makeMap _ none=>true
 | _=>false
def Hq(P:Program)(o:Oper)(d:Ob)(mk:Nat->D):Prop:=∃(obj:Obj) (a:Nat->Value),
 (∀(e:Operand->Value) (w:World),(execOp e o).run P w=.ok (.value (a w.heap.size)) (w.alloc obj)) /\
 (∀(Z:Nat->Prop) (h:List Ob) (c:List Pl) (w:World) (b:Nat),w.heap[b]? = some obj->KL Z h c w d b 0) /\
 (∀(Z:Nat->Prop) (h:List Ob) (c:List Pl) (w:World) (l b:Nat),h[l]? = some d->c[l]? = some (some (b,0))->QF Z h c w (mk l) (a b))
def Qdq{P}{L}(n:Jl P L){o:Oper}{t:TypeId}(g:o.op=.alloc t){y}(f:ty L t=some y):
  Hq P o ⟨.one,0,(y.zero.map Km).length,1,λ_=>y.zero.map Km⟩ (λl=>.ptr l 0 0 0):=by
 obtain⟨z,hz,r⟩:=(n _ _ f).zeroValue;refine⟨.cells z.cells t,λb=>.pointer (some ⟨b,0,none⟩),fun s w=>?_,λZ h d w b m=>?_,λZ h d w l b q p=>?_⟩
 .simp[execOp,g,Instr.alloc,newVar,newRow,r]
 .refine .N7 rfl ⟨z.cells,t,m,by simp[<- hz],λ_ _=>rfl,λi j k a=>?_⟩;have e:i=0:=by simp at k;omega
  subst e;have c:j<z.cells.size:=by rw[<- hz]at a;simpa using a
  refine⟨Q5 z.cells.toList j,?_,.cl _ _ ?_⟩
  .simp only[E9,JM,Q5,Q7];rw[wv,jV c];rfl
  .rw[<- hz];simp only[nth,Q5,Q7,KX,wv,jV c,KA,Vn];exact Dz _ _ _
 .exact .ptr _ _ _ _ _ (some (b,0)) _ q p rfl (Qs _) (λ_=>⟨_,_,rfl,σ⟩)
def Qdr{P}{o:Oper}{t:TypeId}(d:o.op=.makeMap t none)(q):Hq P o (QR q 0 []) (λl=>.mref l 0):=by
 refine⟨.map #[] 0,λb=>.map (some b),fun m w=>?_,λZ h c w b f=>?_,λZ h c w l b k g=>?_⟩
 .simp[execOp,d,Instr.makeMap]
 .exact oV (kd:=.map) f ⟨rfl,λi e a h=>by simp at h,λi j a n _ h=>by simp at h⟩ rfl
 .exact .mref _ _ (QR q 0 []) (some (b,0)) b k g ⟨by simp[QR,Ww,Kd.ty],rfl⟩ (Qs _) (λ_=>rfl)
section
variable (P:Program)(base nt:Nat)(w0:Start)
def Fv(o : Oper): Bool := calm o && !(o.pos == "!")
def qt(b : Bool)(o : Oper): Oper := ⟨o.dst, o.op, o.type, bif b then "!" else "", #[], none⟩
theorem Qds{P}{b}{o:Oper}{a}{w}{K}{Q}:(qt b o).wp P a w K Q=o.wp P a w K Q:=rfl
def QoT(b)(o):Fv (qt b o)=(calm o&&!b):=by cases b<;>simp[Fv,qt,calm]
def vD(o:Oper)(w a:World):Prop:=match o.op with
 | .insert ..=>j6 w a
 | _=>Fv o=true->Ext w a
def vD.ext{o}{w a}(h:Ext w a):vD o w a:=by
 unfold vD;split
 .exact .ext h
 .exact λ_=>h
def vD.calm{o}{w a}(h:vD o w a)(b:Fv o=true):Ext w a:=by
 unfold vD at h;split at h
 .rename_i c;simp[Fv,Go.Fg.calm,c]at b
 .exact h b
def vD.ins{o}{w b}(h:vD o w b)(a:DN o=true):j6 w b:=by
 unfold DN at a;split at a
 .rename_i c;unfold vD at h;rw[c]at h;exact h
 .cases a
def vD.mk{o}{w a}(h:Fv o=true->Ext w a)(c:DN o=false):vD o w a:=by
 unfold vD;split
 .rename_i b;simp[DN,b]at c
 .exact h
def xR(c:List Nat)(a:Array Oper)(i:Nat)(w b:World):Prop:=match a[i]? with
 | some o=>vD (qt (Vb i c) o) w b
 | none=>True
def LQ{c}{a:Array Oper}{i}{o}{w b}(d:a[i]? = some o):xR c a i w b=vD (qt (Vb i c) o) w b:=by simp only[xR,d]
def AE(o:Oper)(F:St->Prop)(s:St):Prop:=∀(Z:Nat->Prop),SQ w0 Z->∀e a w,Rel Z base nt s e a w->Vi Z base w0 s.h e w ->
 o.wp P a w (λg b=>vD o w b/\∃d c f v,F ⟨Zk s.fr o.dst d,c⟩/\Rel Z base nt ⟨Zk s.fr o.dst d,c⟩ f g b/\Vi Z base w0 c f b/\Tr s.h e w c f b/\g=a.put o.dst v) (λ_ _ _=>False)
def XL(b:Bool)(o:Oper)(F:St->Prop)(s:St):Prop:=match b with
 | true=>∃d,WJ P base nt o s d/\(DM o=true->cA P base nt o s d)/\Zt nt o.dst=true/\F ⟨Zk s.fr o.dst d,s.h⟩
 | false=>match zN o with
  | true=>∃a mk,Hq P o a mk/\Zt nt o.dst=true/\F ⟨Zk s.fr o.dst (mk s.h.length),s.h++[a]⟩
  | false=>AE P base nt w0 o F s
def AX(K:St->Prop):List (Bool × Oper × G)->St->Prop
 | [],s=>K s
 | (a,o,g)::r,s=>match g with
  | none=>XL P base nt w0 a o (AX K r) s
  | some (none,_)=>Zt nt o.dst=true/\AX K r ⟨Zk s.fr o.dst (.raw Go.undef),s.h⟩
  | some (some t,b)=>match get s.fr t with
   | .raw (.bool x)=>(x=b->XL P base nt w0 a o (AX K r) ⟨put s.fr t (.raw (.bool b)),s.h⟩) /\
     (x=(!b)->Zt nt o.dst=true/\AX K r ⟨Zk (put s.fr t (.raw (.bool (!b)))) o.dst (.raw Go.undef),s.h⟩)
   | .raw (.tuple _)=>Zt nt o.dst=true/\AX K r ⟨Zk s.fr o.dst (.raw Go.undef),s.h⟩
   | _=>False
end
def Vj(c:List Nat)(a:Array Oper)(l:List (Nat × Bool)):List (Bool × Oper × G):=l.map λb=>match a[b.1]? with
 | some o=>(b.2,qt (Vb b.1 c) o,guardOf a o)
 | none => (b.2, ⟨none, .move (.tmp 0), 0, "", #[], none⟩, none)
section
variable {nc:List Nat}{P:Program}{base nt:Nat}{w0:Start}
def QoU{o:Oper}{c}{mk}{F}{s:St}(h:Hq P o c mk)(j:Zt nt o.dst=true)(B:base<=w0.w.heap.size)(u:F ⟨Zk s.fr o.dst (mk s.h.length),s.h++[c]⟩):AE P base nt w0 o F s:=by
 intro Z z d a w r b;obtain⟨obj,g,y,x,v⟩:=h;have e:∀k,k<w.heap.size->(w.alloc obj).heap[k]? = w.heap[k]? := λk f=>xK w obj k f;have C:(w.alloc obj).heap[w.heap.size]? = some obj:=heap_alloc_new w obj;have i:base<=w.heap.size:=JL B b.1.size;have T:Tr s.h d w (s.h++[c]) (d++[some (w.heap.size,0)]) (w.alloc obj):=Tr.push r.o e _ _ (by intro k q n;simp at n;omega);have l:=Zo.Sz r.o e c (Qs _) i (x Z (s.h++[c]) (d++[some (w.heap.size,0)]) _ _ C);have m:QF Z (s.h++[c]) (d++[some (w.heap.size,0)]) (w.alloc obj) (mk s.h.length) (g w.heap.size):=v Z _ _ _ _ _ σ (by rw[<- r.o.len];simp);unfold Oper.wp;rw[y a.eval w];simp only[Oper.upon_value];refine⟨vD.ext λk f=>e k f,_,_,_,_,u,?_,b.step T (Fj i obj),T,rfl⟩;cases p:o.dst with
 | none=>exact r.AW T l _
 | some t=>rw[p]at j;exact r.to T l (vz j) m
def XL.ae(d:base<=w0.w.heap.size){o}{F}{s}(h:XL P base nt w0 false o F s):AE P base nt w0 o F s:=by
 simp only[XL]at h;split at h
 .obtain⟨e,mk,c,b,a⟩:=h;exact QoU c b d a
 .exact h
def QF.Oz{Z M}{h L}{B F}{w C:World}(Q:∀b,free Z B b->b<w.heap.size->free M F b/\C.heap[b]? = w.heap[b]?)
  (n:∀(l:Nat) (o:Ob) (p:Pl),h[l]? = some o->B[l]? = some p->L[l]? = some o/\F[l]? = some p) (R:∀(l b q:Nat),B[l]? = some (some (b,q))->C.heap[b]? = w.heap[b]?) {d:D} {v:Value} (r:QF Z h B w d v):QF M L F C d v:=by
 induction r with
 | cl d v E=>exact .cl d v (E.mono Q)
 | ref l g H I o p a J k e x y u=>
  refine .ref l g H I o p a J (n l o p k e).1 (n l o p k e).2 x y λV=>?_;rcases u V with T|⟨b,q,c,el,N,S,U,E,m⟩
  .exact .inl T
  .exact .inr ⟨b,q,c,el,N,S,by rw[R l b q (by rw[e,N])];exact U,E,m⟩
 | ptr l g i j o p a k e x y u=>exact .ptr l g i j o p a (n l o p k e).1 (n l o p k e).2 x y u
 | mref l g o p b k e x y u=>exact .mref l g o p b (n l o p k e).1 (n l o p k e).2 x y u
 | clo f O z s m K t=>exact .clo f O z s m t
 | agg z s m K t=>exact .agg z s m t
 | tup z s m K t=>exact .tup z s m t
def Zo.Oz{Z g}{h}{c}{w f:World}(R:Zo Z base h c w)(n:∀b,free Z c b->b<w.heap.size->free g c b/\f.heap[b]? = w.heap[b]?)(e:∀b,b<w.heap.size->f.heap[b]? = w.heap[b]?):Zo g base h c f where
 len:=R.len
 inj:=R.inj
 VX:=R.VX
 at_:=λl o b q m d=>by
  obtain⟨p,x⟩:=R.at_ l o b q m d;exact⟨p,x.to rfl rfl rfl (e b (R.lt d).1) (λ_ _=>rfl) λi j v _ _ k=>k.Oz n (λ_ _ _ a b=>⟨a,b⟩) (λl b q d=>e b (R.lt d).1)⟩
def Zo.pf{Z s}{h}{k}{w}(R:Zo Z base h k w){b}(C:∀c,free Z k c->free s (k++[some (b,0)]) c)(y:XH k b)(J:base<=b){n}
  (z:KL s (h++[n]) (k++[some (b,0)]) w n b 0):Zo s base (h++[n]) (k++[some (b,0)]) w:=by
 refine⟨by simp[R.len],?_,?_,?_⟩
 .intro l u r q t p H;rcases Ys p with e|⟨e,f⟩<;>rcases Ys H with d|⟨d,g⟩
  .exact R.inj l u r q t e d
  .simp at g;obtain⟨rfl,rfl⟩:=g;exact absurd e (y l q)
  .simp at f;obtain⟨rfl,rfl⟩:=f;exact absurd d (y u t)
  .omega
 .intro l o m p;rcases Ys p with e|⟨e,f⟩
  .rcases Ys m with d|⟨d,g⟩
   .exact R.VX l o d e
   .have:=WR e;have:=R.len;omega
  .simp at f
 .intro l o r q m I;rcases Ys I with e|⟨e,f⟩
  .rcases Ys m with d|⟨d,g⟩
   .obtain⟨F,x⟩:=R.at_ l o r q d e;exact⟨F,x.to rfl rfl rfl rfl (λ_ _=>rfl) λi j v _ _ B=>B.Oz (λc E _=>⟨C c E,rfl⟩) (λ_ _ _ a b=>⟨Cb a,Cb b⟩) (λ_ _ _ _=>rfl)⟩
   .have:=WR e;have:=R.len;omega
  .rcases Ys m with d|⟨d,g⟩
   .have:=KY d;have:=R.len;omega
   .subst g;simp at f;obtain⟨rfl,rfl⟩:=f;exact⟨λ_=>J,z⟩
def WK(a:Array Oper)(i:Nat):Bool:=match a[i]? with
 | some o=>zN o&&o.guard.isNone&&o.after.toList.isEmpty
 | none=>false
def OA(a:Array Oper)(done:List Nat)(i:Nat):List Edge->Bool
 | []=>false
 | e::r=>(Region.binds .any e&&!Vb e.on done&&(!WK a e.on || Nat.beq e.on i)) || OA a done i r
def S6(a:Array Oper)(done:List Nat)(i:Nat):List (Nat × Bool × Option Oper)->Bool
 | []=>true
 | (j,_,some b)::r=>(WK a j || OA a done i b.after.toList)&&S6 a done i r
 | (_,_,none)::_=>false
def LR(a:Array Oper)(R:List Nat):List (Nat × Bool × Option Oper):=R.map λi=>(i,false,a[i]?)
def Fw(nc:List Nat)(L:Jr)(a:Array Oper)(R:List Nat):List (Nat × Bool × Option Oper)->List Nat->Bool
 | [],_=>true
 | (i,p,some o)::r,done=>!Vb i done&&!vC done o.after.toList&&(match p with
  | true=>!WK a i&&S5 nc L a done i o (r++LR a R)
  | false=>S6 a done i (r++LR a R))&&Fw nc L a R r (i::done)
 | (_,_,none)::_,_=>false
def Qdt{a}{done}{i}:∀{l:List Edge},OA a done i l=true->∃e∈l,Region.binds .any e=true/\e.on ∉ done/\(WK a e.on=false\/e.on=i)
 | [],h=>by cases h
 | e::r,h=>by
  simp only[OA,B3,ZX,jl,WG]at h;rcases h with h|h
  .exact⟨e,σ,h.1.1,(λb=>by rw[xQ.2 b]at h;exact absurd h.1.2 σ),h.2⟩
  .obtain⟨f,d,c⟩:=Qdt h;exact⟨f,by simp[d],c⟩
def Qdu{a:Array Oper}{done}{i}:∀{r:List (Nat × Bool × Option Oper)},(∀x∈r,x.2.2=a[x.1]?)->S6 a done i r=true->∀x∈r,∀b,a[x.1]? = some b->WK a x.1=true\/OA a done i b.after.toList=true
 | [],_,_,x,hx,_,_=>by cases hx
 | (j,p,none)::r,_,h,_,_,_,_=>by cases h
 | (j,p,some o)::r,d,h,x,hx,b,c=>by
  simp only[S6,ZX,B3]at h;rcases QG.1 hx with h1|h1
  .subst h1;have e:some o=a[j]? := d (j,p,some o) σ;have c:a[j]? = some b:=c;rw[c]at e;cases e;exact h.1
  .exact Qdu (λy f=>d y (by simp[f])) h.2 x h1 b c
abbrev En:=Nat × Bool × Option Nat
def XY(l:List En):List Nat:=l.map (·.1)
def YS(l:List En):List (Nat × Bool):=l.map λx=>(x.1,x.2.1)
def early:List En->List Nat
 | []=>[]
 | (i,_,some _)::r=>i::early r
 | (_,_,none)::r=>early r
def blocks:List En->List Nat
 | []=>[]
 | (_,_,some b)::r=>b::blocks r
 | (_,_,none)::r=>blocks r
def YT:List En->Nat
 | []=>0
 | (_,_,some _)::r=>YT r
 | (_,_,none)::r=>YT r+1
def LS{j}:∀{l:List En},j∈early l↔∃p b,(j,p,some b)∈l
 | []=>by simp[early]
 | (i,p,some b)::r=>by
  simp only[early,QG,LS (l:=r),Zh,Q4];constructor
  .rintro (rfl|⟨a,c,h⟩)
   .exact⟨p,b,.inl ⟨rfl,rfl,rfl⟩⟩
   .exact⟨a,c,.inr h⟩
  .rintro⟨a,c,⟨rfl,_⟩|h⟩
   .exact .inl rfl
   .exact .inr ⟨a,c,h⟩
 | (i,p,none)::r=>by
  simp only[early,QG,LS (l:=r),Zh,reduceCtorEq,and_false,false_or]
def Fx{c}:∀{l:List En},c∈blocks l↔∃j p,(j,p,some c)∈l
 | []=>by simp[blocks]
 | (i,p,some b)::r=>by
  simp only[blocks,QG,Fx (l:=r),Zh,Q4];constructor
  .rintro (rfl|⟨a,d,h⟩)
   .exact⟨i,p,.inl ⟨rfl,rfl,rfl⟩⟩
   .exact⟨a,d,.inr h⟩
  .rintro⟨a,d,⟨_,_,rfl⟩|h⟩
   .exact .inl rfl
   .exact .inr ⟨a,d,h⟩
 | (i,p,none)::r=>by
  simp only[blocks,QG,Fx (l:=r),Zh,reduceCtorEq,and_false,false_or]
def pg{j:Nat}{p:Bool}{b:Nat}{l2:List En}:∀a:List En,YT (a++(j,p,none)::l2)=YT (a++(j,p,some b)::l2)+1
 | []=>rfl
 | (_,_,some _)::r=>pg r
 | (_,_,none)::r=>by
  simp only[YG,YT];rw[pg (b:=b) r]
def ph{j:Nat}{p:Bool}{b:Nat}{a:List En}:∀d:List En,b ∉ blocks (d++(j,p,none)::a)->(blocks (d++(j,p,none)::a)).Nodup->(blocks (d++(j,p,some b)::a)).Nodup
 | [],h,k=>by simp only[Yr,blocks]at h k ⊢;exact Z8.2 ⟨h,k⟩
 | (i,q,some c)::r,h,k=>by
  simp only[YG,blocks,QG,qV]at h k ⊢;obtain⟨f,l⟩:=Z8.1 k;refine Z8.2 ⟨λm=>?_,ph r h.2 l⟩;obtain⟨g,e,n⟩:=Fx.1 m;rcases QX.1 n with h1|h1
  .exact f (Fx.2 ⟨g,e,QX.2 (.inl h1)⟩)
  .rcases QG.1 h1 with h2|h2
   .cases h2;exact h.1 rfl
   .exact f (Fx.2 ⟨g,e,QX.2 (.inr (QG.2 (.inr h2)))⟩)
 | (i,q,none)::r,h,k=>by
  simp only[YG,blocks]at h k ⊢;exact ph r h k
structure eG (P:Program) (ops:Array Oper) (nt:Nat) (w0:Start) (pl:List Pl) (a:Act) (w:World) (i b:Nat):Prop where
 run:∃(o:Oper) (d:Nat) (w1:World) (ρ:Operand->Value) (v:Value) (obj:Obj),ops[i]? = some o/\o.dst=some d/\(execOp ρ o).run P w1=.ok (.value v) (w1.alloc obj)/\b=w1.heap.size/\w.heap[b]? = some obj/\(d<nt->a.tmps.getD d Go.undef=v)
 XH:XH pl b
 low:w0.w.heap.size<=b
def Qdv{a:Act}{t:Option Nat}{d:Nat}{v:Value}(h:t≠some d):(a.put t v).tmps.getD d Go.undef=a.tmps.getD d Go.undef:=by
 cases t with
 | none=>rfl
 | some t=>
  have:t≠d:=λe=>h (by rw[e]);simp[Act.put,yH,nQ this]
def eG.step{P:Program}{c:Array Oper}{nt:Nat}{w0:Start}{h h':List Ob}{f l:List Pl}{a:Act}{w e:World}{i b:Nat}(p:eG P c nt w0 f a w i b)(T:Tr h f w h' l e){t:Option Nat}(v:Value)
  (x:∀o d,c[i]? = some o->o.dst=some d->t≠some d):eG P c nt w0 l (a.put t v) e i b:=by
 obtain⟨o,d,n,m,u,obj,k,j,B,z,g,y⟩:=p.run;obtain⟨r,q⟩:=T.Kl b p.XH (vm g);exact⟨⟨o,d,n,m,u,obj,k,j,B,z,by rw[q];exact g,λs=>by rw[Qdv (x o d k j)];exact y s⟩,r,p.low⟩
def eI{a}{t}{u}{d}(h:t≠some u):get (Zk a t d) u=get a u:=by
 cases t with
 | none=>rfl
 | some t=>rw[Zk,GV,Qe (λe=>h (by rw[e]))]
structure yU (nc:List Nat) (P:Program) (L:Jr) (ops:Array Oper) (R:List Nat) (base nt:Nat) (w0:Start) (Z0 Z:Nat->Prop) (l:List En) (done:List Nat) (Zx:Array Bool) (s:St) (pl:List Pl) (a:Act) (w:World):Prop where
 sched:Fw nc L ops R ((YS l).map λip=>(ip.1,ip.2,ops[ip.1]?)) done=true
 cover:∀j,j<ops.size->j ∉ done->j∈XY l\/j∈R
 OB:∀j∈R,j ∉ done/\j ∉ XY l/\WK ops j=false
 marks:Marks ops Zx (early l++done)
 late:∀i p b,(i,p,some b)∈l->WK ops i=true
 lp:∀i p q,(i,p,q)∈l->WK ops i=true->p=false
 z:∀b,Z b↔Z0 b/\b ∉ blocks l
 z0:∀i p b,(i,p,some b)∈l->Z0 b
 S7:(blocks l).Nodup
 S8:∀i p q,(i,p,q)∈l->WK ops i=true->∀o d,ops[i]? = some o->o.dst=some d->get s.fr d=.undef
 rel:Rel Z base nt s pl a w
 since:Vi Z base w0 s.h pl w
 LU:∀i p b,(i,p,some b)∈l->eG P ops nt w0 pl a w i b
def eJ{L}{a:Array Oper}{R}:∀{l:List En} {done:List Nat},Fw nc L a R ((YS l).map λc=>(c.1,c.2,a[c.1]?)) done=true->∀j,j∈XY l->j ∉ done
 | [],_,_,j,b=>by simp[XY]at b
 | (i,p,q)::r,done,h,j,b=>by
  simp only[YS,Jo]at h;cases e:a[i]? with
  | none=>rw[e]at h;cases h
  | some o=>
   rw[e]at h;simp only[Fw,ZX,jl]at h;simp only[XY,Jo,QG]at b;rcases b with rfl|b
   .exact λd=>by rw[xQ.2 d]at h;exact absurd h.1.1.1 σ
   .exact λd=>eJ (l:=r) h.2 j b (QG.2 (.inr d))
def Marks.same{a}{e}{d c}(M:Marks a e d)(h:∀j,j∈d↔j∈c):Marks a e c where
 size:=M.size
 get:=λj b=>by rw[M.get j b,h]
 get':=λj=>by rw[M.get',h]
 lt:=λj b=>M.lt j ((h j).2 b)
def eK{a:Array Oper}{i}{o:Oper}(b:a[i]? = some o)(h:WK a i=true):zN o=true/\o.guard=none/\∀e,e ∉ o.after:=by
 simp only[WK,b,ZX,Option.isNone_iff_eq_none,List.isEmpty_iff]at h;exact⟨h.1.1,h.1.2,λe c=>by have:e∈o.after.toList:=(by simpa using c);rw [h.2] at this; cases this⟩
def pn{a:Array Oper}{t}{done s}(M:Marks a t (s++done))(p:∀j∈s,WK a j=true){i}:∀{n:Nat} {j:Nat} {b:Oper} {l:List Edge},a[j]? = some b->(∀e∈l,e∈b.after)->Oy a done i n l=true->Cw a t i j
 | 0,_,_,_,_,_,h=>by cases h
 | n+1,_,_,[],_,_,h=>by cases h
 | n+1,j,b,e::r,m,k,h=>by
  simp only[Oy,B3,ZX,WG,jl]at h;rcases h with ⟨q,f|⟨f,d⟩⟩|h
  .exact .S4 j b e m (k e σ) q f
  .split at d
   .rename_i o g;have Qc:=(WO.1 g).1;refine .step j b e m (k e σ) q ((M.get e.on Qc).2 λu=>?_) (pn M p g (λe c=>by simpa using c) d);rcases QX.1 u with h3|h3
    .have v:=(eK g (p _ h3)).2.2;have:o.after.toList=[]:=nT.2 λe c=>v e (by simpa using c);rw[this]at d;cases n<;>simp[Oy]at d
    .rw[xQ.2 h3]at f;cases f
   .cases d
  .exact pn M p m (λe c=>k e (by simp[c])) h
def Qdw{L}{a:Array Oper}{done k}{i}{d:Oper}{l}(M:Marks a l (k++done))(m:∀j∈k,WK a j=true):∀{r:List (Nat × Bool × Option Oper)},(∀x∈r,x.2.2=a[x.1]?)->S5 nc L a done i d r=true->∀x∈r,∀b,a[x.1]? = some b->Cw a l i x.1\/((((calm b=true/\Vb x.1 nc=false)\/still L d=true)\/(DM d=true/\DN b=true))/\d.apart a b=true)
 | [],_,_,x,hx,_,_=>by cases hx
 | (j,p,none)::r,_,h,_,_,_,_=>by cases h
 | (j,p,some o)::r,g,h,x,hx,b,c=>by
  simp only[S5,ZX,B3]at h;rcases QG.1 hx with h1|h1
  .subst h1;have e:some o=a[j]? := g (j,p,some o) σ;have c:a[j]? = some b:=c;rw[c]at e;cases e;rcases h.1 with (h2|h2)|h2
   .obtain⟨e,f,s,n⟩:=Qdo h2;exact .inl (.S4 j _ e c (by simpa using f) s n)
   .simp only[jl]at h2;exact .inr h2
   .exact .inl (pn M m c (λe f=>by simpa using f) h2)
  .exact Qdw M m (λy q=>g y (by simp[q])) h.2 x h1 b c
def S9(a:Array Oper):Prop:=∀(i j:Nat) (c b:Oper) (d:Nat),i≠j->WK a i=true->a[i]? = some c->a[j]? = some b->c.dst=some d->b.dst≠some d
def yU.head{L}{b}{R}{n Z}{i}{p}{q}{r}{done}{m}{s}{g}{a}{w}(I:yU nc P L b R base nt w0 n Z ((i,p,q)::r) done m s g a w):
  ∃o,b[i]? = some o/\i ∉ done/\(∀e∈o.after,Region.binds .any e=true->e.on∈done) /\
   (p=true->WK b i=false/\S5 nc L b done i o ((YS r).map (λc=>(c.1,c.2,b[c.1]?))++LR b R)=true)/\(p=false->S6 b done i ((YS r).map (λc=>(c.1,c.2,b[c.1]?))++LR b R)=true) /\
   Fw nc L b R ((YS r).map λc=>(c.1,c.2,b[c.1]?)) (i::done)=true:=by
 have h:=I.sched;simp only[YS,Jo]at h;cases f:b[i]? with
 | none=>rw[f]at h;cases h
 | some o=>
  rw[f]at h;simp only[Fw,ZX,jl]at h;refine⟨o,rfl,λj=>by rw[xQ.2 j]at h;exact absurd h.1.1.1 σ,λe k l=>eF h.1.1.2 e (by simpa using k) l,λd=>?_,λd=>?_,h.2⟩
  .subst d;have:=h.1.2;simp only[ZX,jl]at this;exact this
  .subst d;exact h.1.2
def po{i}{p}{q}{l}(h:(i,p,q)∈l):i∈XY l:=JA.2 ⟨_,h,rfl⟩
def yU.next{L}{f}{R}(Q:S9 f){H Z}{i}{p}{r}{done}{E}{s s'}{y t}{a}{w m}(I:yU nc P L f R base nt w0 H Z ((i,p,none)::r) done E s y a w)
  {o:Oper} (x:f[i]? = some o) (v:Value) (T:Tr s.h y w s'.h t m) (O:Rel Z base nt s' t (a.put o.dst v) m) (N:Vi Z base w0 s'.h t m) (M:∀d,o.dst≠some d->get s.fr d=.undef->get s'.fr d=.undef) :
  yU nc P L f R base nt w0 H Z r (i::done) (E.setIfInBounds i true) s' t (a.put o.dst v) m:=by
 obtain⟨U,F,h1,Y,W,V,B⟩:=I.head;rw[x]at F;cases F;have Qc:=(WO.1 x).1;have S:∀j p q,(j,p,q)∈r->j≠i:=λj p q c e=>eJ B j (po c) (by rw[e];simp);have C:∀j p q,(j,p,q)∈r->WK f j=true->∀k d,f[j]? = some k->k.dst=some d->o.dst≠some d:=λj p q c n k d l g=>Q j i k o d (S j p q c) n l x g;refine⟨B,λj c g=>?_,λj c=>?_,(I.marks.set Qc).same λj=>?_,λj p b c=>I.late j p b (Jw _ c),λj p q c=>I.lp j p q (Jw _ c),I.z,λj p b c=>I.z0 j p b (Jw _ c),I.S7,λj p q c n k d l g=>?_,O,N,λj p b c=>?_⟩
 .simp only[QG,qV]at g;have:=I.cover j c g.2;simp only[XY,Jo,QG]at this;rcases this with (h|h)|h
  .exact absurd h g.1
  .exact .inl h
  .exact .inr h
 .obtain⟨K,u,J⟩:=I.OB j c;simp only[XY,Jo,QG,qV]at u;exact⟨λh=>by
   rcases QG.1 h with h|h
   .exact u.1 h
   .exact K h,u.2,J⟩
 .simp only[early,QG,QX];constructor
  .rintro (h|h|h)
   .exact .inr (.inl h)
   .exact .inl h
   .exact .inr (.inr h)
  .rintro (h|h|h)
   .exact .inr (.inl h)
   .exact .inl h
   .exact .inr (.inr h)
 .exact M d (C j p q c n k d l g) (I.S8 j p q (Jw _ c) n k d l g)
 .exact(I.LU j p b (Jw _ c)).step T v λk d l g=>C j p _ c (I.late j p b (Jw _ c)) k d l g
def Tr.snoc{h r}{j t}{w i:World}(T:Tr h j w r t i){b q}(B:w.heap.size<=b)(v):Tr h j w (r++[v]) (t++[some (b,q)]) i where
 Kl:=λc f Qc=>⟨Sy (T.Kl c f Qc).1 λq e=>by simp at e;omega,(T.Kl c f Qc).2⟩
 obj:=λl o p d a=>by
  obtain⟨k,u,g,n,m⟩:=T.obj l o p d a;exact⟨k,u,Cb g,Cb n,m⟩
 shape:=λl o k b q d s x a c el f=>by
  obtain⟨z,y,g,n,m⟩:=T.obj l o _ d a;rw[Cb g]at s;cases s;exact T.shape l o _ b q d g x a c el f
def yU.pf{L}{g}{R}(hD:S9 g)(Q6:base<=w0.w.heap.size){m Z}{i b}{p}{r}{done}{Zx}{s}{k}{a}{w}(I:yU nc P L g R base nt w0 m Z ((i,p,some b)::r) done Zx s k a w)
  {o:Oper} (O:g[i]? = some o) {y:Ob} {mk:Nat->D} (hL:Hq P o y mk) (Y:Zt nt o.dst=true) :
  ∃Z',yU nc P L g R base nt w0 m Z' r (i::done) Zx ⟨Zk s.fr o.dst (mk s.h.length),s.h++[y]⟩ (k++[some (b,0)]) a w:=by
 obtain⟨o',ZU,S,h2,h3,h4,h5⟩:=I.head;rw[O]at ZU;cases ZU;have QE:∀j p q,(j,p,q)∈r->j≠i:=λj p q f e=>eJ h5 j (po f) (by rw[e];simp);have OC:=I.late i p b (Z3 ..);have eL:∀j p q,(j,p,q)∈r->WK g j=true->∀x d,g[j]? = some x->x.dst=some d->o.dst≠some d:=λj p q f F x d H n=>hD j i x o d (QE j p q f) F H O n;obtain⟨o1,d,J,ρ,v,obj,g1,g2,g3,g4,g5,g6⟩:=(I.LU i p b (Z3 ..)).run;rw[O]at g1;cases g1;have OD:=(I.LU i p b (Z3 ..)).XH;have OE:=(I.LU i p b (Z3 ..)).low;obtain⟨C,a0,N,B,M⟩:=hL;have K:=N ρ J;rw[g3]at K;simp only[Result.ok.injEq,Next.value.injEq]at K;obtain⟨rfl,U⟩:=K;have DO:obj=C:=by
  have e1:=heap_alloc_new J obj;have e2:=heap_alloc_new J C;rw[U,e2]at e1;exact(N4 e1).symm
 subst DO;have pq:d<nt:=by rw[g2]at Y;exact vz Y
 have hz:∀c,Z c↔m c/\c≠b/\c ∉ blocks r:=λc=>by rw[I.z c];simp only[blocks,QG,qV]
 have Yd:b ∉ blocks r:=by have:=I.S7;simp only[blocks]at this;exact(Z8.1 this).1
 have V:m b:=I.z0 i p b (Z3 ..);have W:∀c,free Z k c->free (λc=>m c/\c ∉ blocks r) (k++[some (b,0)]) c:=λc u=>⟨⟨((hz c).1 u.1).1,((hz c).1 u.1).2.2⟩,Sy u.2 λq e=>by simp at e;exact((hz c).1 u.1).2.1 e.1.symm⟩;have E:k.length=s.h.length:=I.rel.o.len;have hx:=B (λc=>m c/\c ∉ blocks r) (s.h++[y]) (k++[some (b,0)]) w b g5;have hO:=I.rel.o.pf W OD (JL Q6 OE) hx;have hv:=M (λc=>m c/\c ∉ blocks r) (s.h++[y]) (k++[some (b,0)]) w s.h.length b σ (by rw[<- E];simp);have xS:∀{d v},QF Z s.h k w d v->QF (λc=>m c/\c ∉ blocks r) (s.h++[y]) (k++[some (b,0)]) w d v:=λhr=>hr.Oz (λc u _=>⟨W c u,rfl⟩) (λ_ _ _ a b=>⟨Cb a,Cb b⟩) (λ_ _ _ _=>rfl);refine⟨λc=>m c/\c ∉ blocks r,h5,λj f n=>?_,λj f=>?_,I.marks.same λj=>?_,λj p b f=>I.late j p b (Jw _ f),λj p q f=>I.lp j p q (Jw _ f),λc=>Iff.rfl,λj p b f=>I.z0 j p b (Jw _ f),?_,λj p q f F x d H n=>?_,⟨I.rel.nt,I.rel.defers,λt=>?_,hO⟩,⟨I.since.1,?_,⟨λc u=>?_,λl c q e h0=>?_⟩⟩,λj p b' f=>?_⟩
 .simp only[QG,qV]at n;have:=I.cover j f n.2;simp only[XY,Jo,QG]at this;rcases this with (h|h)|h
  .exact absurd h n.1
  .exact .inl h
  .exact .inr h
 .obtain⟨N,B,M⟩:=I.OB j f;simp only[XY,Jo,QG,qV]at B;exact⟨λh=>by
   rcases QG.1 h with h|h
   .exact B.1 h
   .exact N h,B.2,M⟩
 .simp only[early,QG,QX];constructor
  .rintro ((h|h)|h)
   .exact .inr (.inl h)
   .exact .inl h
   .exact .inr (.inr h)
  .rintro (h|h|h)
   .exact .inl (.inr h)
   .exact .inl (.inl h)
   .exact .inr h
 .have:=I.S7;simp only[blocks]at this;exact(Z8.1 this).2
 .rw[eI (eL j p q f F x d H n)];exact I.S8 j p q (Jw _ f) F x d H n
 .rw[g2,Zk,GV];by_cases e:t=d
  .rw[Qf e,e,g6 pq,<- g4];exact hv
  .rw[Qe e];exact xS (I.rel.fr t)
 .exact I.since.2.1.snoc OE y
 .exact(I.z c).1 (I.since.2.2.new c u) |> λh=>⟨h.1,λQ=>h.2 (by simp only[blocks,QG];exact .inr Q)⟩
 .rcases Ys e with S|⟨S,JC⟩
  .exact(I.z c).1 (I.since.2.2.own l c q S h0) |> λh=>⟨h.1,λQ=>h.2 (by simp only[blocks,QG];exact .inr Q)⟩
  .simp at JC;obtain⟨rfl,rfl⟩:=JC;exact⟨V,Yd⟩
 .have T:=I.LU j p b' (Jw _ f);exact⟨T.run,Sy T.XH λq e=>by
   simp at e;exact Yd (by rw[e.1];exact Fx.2 ⟨j,p,f⟩),T.low⟩
def LV{j b:Nat}{p:Bool}{c a:List En}{x:En}(h:x∈c++(j,p,some b)::a):x∈c++(j,p,none)::a\/x=(j,p,some b):=by
 rcases QX.1 h with h|h
 .exact .inl (QX.2 (.inl h))
 .rcases QG.1 h with h|h
  .exact .inr h
  .exact .inl (QX.2 (.inr (Jw _ h)))
def Qdy{j b:Nat}{p:Bool}{d a:List En}{i c:Nat}{q:Bool}(h:(i,q,some c)∈d++(j,p,none)::a):(i,q,some c)∈d++(j,p,some b)::a:=by
 rcases QX.1 h with h|h
 .exact QX.2 (.inl h)
 .rcases QG.1 h with h|h
  .cases h
  .exact QX.2 (.inr (Jw _ h))
def yU.exec{L:Jr}{n:Array Oper}{R:List Nat}(hD:S9 n)(Q6:base<=w0.w.heap.size){x Z:Nat->Prop}{j:Nat}{p:Bool}{m g:List En}{done:List Nat}{V:Array Bool}{s:St}{r:List Pl}{a:Act}{w:World}(I:yU nc P L n R base nt w0 x Z (m++(j,p,none)::g) done V s r a w)
  {o:Oper} (F:n[j]? = some o) (B:WK n j=true) {d:Nat} (y:o.dst=some d) {v:Value} {f:Obj} (Zl:(execOp a.eval o).run P w=.ok (.value v) (w.alloc f)) (Q:∀i p' q,(i,p',q)∈m++(j,p,none)::g->q≠none->i≠j) :
  ∃Z',yU nc P L n R base nt w0 x Z' (m++(j,p,some w.heap.size)::g) done (V.setIfInBounds j true) s r (a.put o.dst v) (w.alloc f):=by
 have Qc:=(WO.1 F).1;have N:(j,p,none)∈m++(j,p,none)::g:=QX.2 (.inr (Z3 ..));have e:∀k,k<w.heap.size->(w.alloc f).heap[k]? = w.heap[k]? := λk hk=>xK w f k hk;have Y:(w.alloc f).heap[w.heap.size]? = some f:=heap_alloc_new w f;have JQ:w.heap.size<(w.alloc f).heap.size:=vm Y;have zM:base<=w.heap.size:=JL Q6 I.since.1.size;have kh:∀c,c∈blocks (m++(j,p,none)::g)->c<w.heap.size:=λc C=>by
  obtain⟨i,q,hq⟩:=Fx.1 C;obtain⟨_,_,_,_,_,_,_,_,_,_,h5,_⟩:=(I.LU i q c hq).run;exact vm h5
 have Yd:w.heap.size ∉ blocks (m++(j,p,none)::g):=λh=>by have:=kh _ h;omega
 have Ta:x w.heap.size:=((I.z _).1 (I.since.2.2.new _ (Qs _))).1;have KZ:∀c,c∈blocks (m++(j,p,some w.heap.size)::g)↔c∈blocks (m++(j,p,none)::g)\/c=w.heap.size:=λc=>by
  rw[Fx,Fx];constructor
  .rintro⟨i,q,h⟩;rcases LV h with h|h
   .exact .inl ⟨i,q,h⟩
   .cases h;exact .inr rfl
  .rintro (⟨i,q,h⟩|rfl)
   .exact⟨i,q,Qdy h⟩
   .exact⟨j,p,QX.2 (.inr (Z3 ..))⟩
 have O:∀c,(x c/\c ∉ blocks (m++(j,p,some w.heap.size)::g))↔Z c/\c≠w.heap.size:=λc=>by
  rw[I.z c,KZ c,qV,and_assoc]
 have S:∀c,free Z r c->c<w.heap.size->free (λc=>x c/\c ∉ blocks (m++(j,p,some w.heap.size)::g)) r c/\(w.alloc f).heap[c]? = w.heap[c]? := λc C Qc=>⟨⟨(O c).2 ⟨C.1,ω⟩,C.2⟩,e c Qc⟩;have xS:∀{d v},QF Z s.h r w d v->QF (λc=>x c/\c ∉ blocks (m++(j,p,some w.heap.size)::g)) s.h r (w.alloc f) d v:=λhr=>hr.Oz S (λ_ _ _ a b=>⟨a,b⟩) (λl b q hp=>e b (I.rel.o.lt hp).1);have T:Tr s.h r w s.h r (w.alloc f):=Tr.ext I.rel.o e;refine⟨λc=>x c/\c ∉ blocks (m++(j,p,some w.heap.size)::g),?_,?_,?_,(I.marks.set Qc).same λi=>?_,λi q b h=>?_,λi q u h B=>?_,λc=>Iff.rfl,λi q b h=>?_,ph _ Yd I.S7,λi q u h W E M J H=>?_,⟨by rw[y];simp[Act.put,I.rel.nt],by rw[y];exact I.rel.defers,λt=>?_,I.rel.o.Oz S e⟩,⟨I.since.1.trans (Fj zM f),I.since.2.1.trans T,⟨λc C=>(O c).2 ⟨I.since.2.2.new c ω,ω⟩,λl c q K h0=>(O c).2 ⟨I.since.2.2.own l c q K h0,by have:=(I.rel.o.lt K).1;omega⟩⟩⟩,λi q b h=>?_⟩
 .have:=I.sched;simpa[YS] using this
 .have:=I.cover;simpa[XY] using this
 .have:=I.OB;simpa[XY] using this
 .simp only[QG,QX,LS];constructor
  .rintro (rfl|⟨q,b,h⟩|h)
   .exact .inl ⟨p,_,.inr (.inl rfl)⟩
   .exact .inl ⟨q,b,by have:=Qdy (b:=w.heap.size) (QX.2 (h.imp id QG.2));simpa using this⟩
   .exact .inr h
  .rintro (⟨q,b,h⟩|h)
   .rcases LV (QX.2 (h.imp id QG.2)) with h|h
    .exact .inr (.inl ⟨q,b,by simpa using h⟩)
    .cases h;exact .inl rfl
   .exact .inr (.inr h)
 .rcases LV h with h|h
  .exact I.late i q b h
  .cases h;exact B
 .rcases LV h with h|h
  .exact I.lp i q u h B
  .cases h;exact I.lp j p none N B
 .rcases LV h with h|h
  .exact I.z0 i q b h
  .cases h;exact Ta
 .rcases LV h with h|h
  .exact I.S8 i q u h W E M J H
  .cases h;exact I.S8 j p none N W E M J H
 .by_cases U:t=d
  .have:=I.S8 j p none N B o d F y;rw[U,this];exact .cl _ _ (.undef _)
  .rw[Qdv (by rw[y];exact λh=>U (N4 h).symm)];exact xS (I.rel.fr t)
 .rcases LV h with h|h
  .refine(I.LU i q b h).step T v λE M J H=>?_;exact hD i j E o M (Q i q (some b) h σ) (I.late i q b h) J F H
  .cases h;refine⟨⟨o,d,w,a.eval,v,f,F,y,Zl,rfl,Y,λhn=>?_⟩,λl q K=>?_,I.since.1.size⟩
   .have:d<a.tmps.size:=by rw[I.rel.nt];exact hn
    simp[Act.put,y,yH,this]
   .have:=(I.rel.o.lt K).1;omega
def Fz(nc:List Nat)(P:Program)(base nt:Nat)(w0:Start)(a:Array Oper)(K:St->Prop):Nat->List Nat->List Nat->St->Prop
 | 0,_,_,s=>K s
 | n+1,R,done,s=>∀i∈R,∀o,a[i]? = some o->vC done o.after.toList=false->AX P base nt w0 (Fz nc P base nt w0 a K n (R.erase i) (i::done)) [(false,qt (Vb i nc) o,guardOf a o)] s
def Bj(a:Array Oper):List Nat->List Nat->Bool
 | [],_=>true
 | i::r,done=>(match a[i]? with
  | some o=>!vC done o.after.toList
  | none=>false)&&Bj a r (i::done)
def pw{done b}(h:∀j∈done,j∈b):∀{l:List Edge},vC done l=false->vC b l=false
 | [],_=>rfl
 | e::r,a=>by
  simp only[vC,Ds,Lf,Bool.not_eq_false']at a ⊢;exact⟨a.1.imp id λk=>xQ.2 (h _ (xQ.1 k)),pw h a.2⟩
def Qdz{a}:∀{R done e:List Nat},(∀j∈done,j∈e)->Bj a R done=true->Bj a R e=true
 | [],_,_,_,_=>rfl
 | i::r,done,e,h,d=>by
  simp only[Bj,ZX]at d ⊢;refine⟨?_,Qdz (λj c=>by
   rcases QG.1 c with rfl|c
   .exact Z3 ..
   .exact Jw _ (h j c)) d.2⟩
  have b:=d.1;cases f:a[i]? with
  | none=>rw[f]at b;cases b
  | some o=>
   rw[f]at b;simp only[jl]at b ⊢;exact pw h b
def QdA{a}{j}:∀{R done:List Nat},Bj a R done=true->Bj a (R.erase j) (j::done)=true
 | [],_,_=>rfl
 | i::r,done,h=>by
  simp only[Bj,ZX]at h;by_cases d:i=j
  .subst d;rw[List.erase_cons_head];exact h.2
  .rw[List.erase_cons_tail (by simpa using d)];simp only[Bj,ZX];refine⟨?_,Qdz (λk b=>?_) (QdA (j:=j) h.2)⟩
   .have h1:=h.1;cases c:a[i]? with
    | none=>rw[c]at h1;cases h1
    | some o=>
     rw[c]at h1;simp only[jl]at h1 ⊢;exact pw (λk b=>Jw _ b) h1
   .simp only[QG]at b ⊢;rcases b with h1|h1|h1
    .exact .inr (.inl h1)
    .exact .inl h1
    .exact .inr (.inr h1)
def QoY{c:Array Oper}(V:base<=w0.w.heap.size){F}{Z}{i}{o}(u:c[i]? = some o){s:St}{k}{a}{w}(r:Rel Z base nt s k a w)(b:Vi Z base w0 s.h k w)
  (h:AX P base nt w0 F [(false,qt (Vb i nc) o,guardOf c o)] s):wpOp P c (λ_ _ _=>False) i (λm f=>xR nc c i w f/\∃g j,F g/\Rel Z base nt g j m f/\Vi Z base w0 g.h j f) a w:=by
 have skip:∀(e:St),e.h=s.h->Rel Z base nt e k a w->XK (guardOf c o) a.tmps=false->Zt nt (qt (Vb i nc) o).dst=true->F ⟨Zk e.fr (qt (Vb i nc) o).dst (.raw Go.undef),e.h⟩->_:=λe H z B N E=>by
  have n:YieldsIf P c (λ_:World=>True) o Go.undef a:=.inr ⟨by rw[Om];exact B,rfl⟩;have W:Rel Z base nt ⟨Zk e.fr o.dst (.raw Go.undef),e.h⟩ k (a.put o.dst Go.undef) w:=z.skip N;exact n.wpOp (P:=P) (Q:=λ_ _ _=>False) (K:=λm f=>xR nc c i w f/\∃g j,F g/\Rel Z base nt g j m f/\Vi Z base w0 g.h j f) u trivial ⟨by rw[LQ u];exact .ext (Ext.refl _),_,k,E,W,by rw[show (⟨Zk e.fr o.dst (.raw Go.undef),e.h⟩:St).h=s.h from H];exact b⟩
 have J:∀(e:St),e.h=s.h->Rel Z base nt e k a w->XK (guardOf c o) a.tmps=true->XL P base nt w0 false (qt (Vb i nc) o) F e->wpOp P c (λ_ _ _=>False) i (λm f=>xR nc c i w f/\∃g j,F g/\Rel Z base nt g j m f/\Vi Z base w0 g.h j f) a w:=λe H z B E=>by
  unfold wpOp;simp only[u,Om,B,VB];refine .inl ?_;have:=E.ae V Z trivial k a w z (by rw[H];exact b);rw[Qds]at this;refine Oper.wp_mono (λm f O=>?_) this;obtain⟨R,d,h',j,v,S,M,U,T,rfl⟩:=O;exact⟨by rw[LQ u];exact R,_,j,S,M,U⟩
 simp only[AX]at h;split at h
 .rename_i l;exact J s rfl r (by rw[l];rfl) h
 .rename_i x l;exact skip s rfl r (by rw[l];rfl) h.1 h.2
 .rename_i t x l;split at h
  .rename_i y n;have p:=r.fr t;rw[n]at p;have C:=JJ p;have I:=o6 C;by_cases q:y=x
   .refine J ⟨put s.fr t (.raw (.bool x)),s.h⟩ rfl (r.tell (t:=t) (d:=.raw (.bool x)) (by rw[C,q];exact .cl _ _ (.raw _))) ?_ (h.1 q);rw[l];simp[XK,I,q]
   .have L:y=(!x):=by cases x<;>cases y<;>simp_all
    have:=h.2 L;refine skip ⟨put s.fr t (.raw (.bool !x)),s.h⟩ rfl (r.tell (t:=t) (d:=.raw (.bool (!x))) (by rw[C,L];exact .cl _ _ (.raw _))) ?_ this.1 this.2;rw[l];simp[XK,I,q]
  .rename_i Y n;have p:=r.fr t;rw[n]at p;refine skip s rfl r ?_ h.1 h.2;rw[l];simp[XK,o7 (JJ p)]
  .exact h.elim
def pz{c:Array Oper}{K}(J:base<=w0.w.heap.size){Z}:∀(n:Nat) (R done:List Nat) (l:Array Bool) (s:St) (f:List Pl) (a:Act) (w:World),R.length=n->Marks c l done->(∀j,j<c.size->j ∉ done->j∈R)->(∀j∈R,j ∉ done)->R.Nodup->Bj c R done=true ->
  Rel Z base nt s f a w->Vi Z base w0 s.h f w->Fz nc P base nt w0 c K n R done s->Bh P c (λa w=>∃s f,K s/\Rel Z base nt s f a w/\Vi Z base w0 s.h f w) (xR nc c) n l a w
 | 0,R,done,l,s,f,a,w,t,M,y,B,C,q,r,b,h=>by
  have:R=[]:=NO.1 t;subst this;refine⟨nT.2 λj m=>?_,s,f,h,r,b⟩;obtain⟨g,o,d,_⟩:=mem_ready.1 m;have Qc:=(WO.1 d).1;have:=y j Qc ((M.get j Qc).1 g);cases this
 | n+1,R,done,l,s,f,a,w,t,M,y,B,C,q,r,b,h=>by
  have ready:∀j o,c[j]? = some o->j ∉ done->vC done o.after.toList=false->j∈Region.ready .any c l:=λj o d m v=>by
   have Qc:=(WO.1 d).1;exact mem_ready.2 ⟨(M.get j Qc).2 m,o,d,λe x z=>(M.get' e.on).2 ⟨eF v e (by simpa using x) z,M.lt _ (eF v e (by simpa using x) z)⟩⟩
  refine⟨λe=>?_,λj m=>?_⟩
  .cases R with
   | nil=>cases t
   | cons i rr=>
    simp only[Bj,ZX]at q;have g:=q.1;split at g
    .rename_i o d;have:=ready i o d (B i (Z3 ..)) (by simpa using g);rw[e]at this;cases this
    .cases g
  .obtain⟨g,o,d,KI⟩:=mem_ready.1 m;have Qc:=(WO.1 d).1;have F:=(M.get j Qc).1 g;have I:=y j Qc F;have v:vC done o.after.toList=false:=by
    cases z:vC done o.after.toList
    .rfl
    .obtain⟨e,x,H,L⟩:=Qdp z;exact absurd ((M.get' e.on).1 (KI e (by simpa using x) H)).1 L
   refine wpOp_mono (λY N V=>?_) (QoY J d r b (h j I o d v));obtain⟨U,O,Qk,S,Q,W⟩:=V;refine⟨U,pz J n (R.erase j) (j::done) (l.setIfInBounds j true) O Qk Y N (by rw[List.length_erase_of_mem I,t];rfl) (M.set Qc) (λk u p=>?_) (λk u p=>?_) (C.erase _) (QdA q) Q W S⟩
   .simp only[QG,qV]at p;exact(List.mem_erase_of_ne p.1).2 (y k u p.2)
   .have E:=List.mem_of_mem_erase u;rcases QG.1 p with rfl|T
    .exact(C.not_mem_erase) u
    .exact B k E T
def Qo2{L}(b1:Jl P L){c:Array Oper}{R U:List Nat}{K}(Ov:Region.noSelect c=true)(Q6:base<=w0.w.heap.size)(hD:S9 c)(hL:∀j o,c[j]? = some o->WK c j=true->(∃ob mk,Hq P o ob mk)/\∃d,o.dst=some d){H}(a2:R.Nodup)(a1:Bj c R U=true):
  ∀(m:Nat) (l:List En) (done:List Nat) (E:Array Bool) (s:St) (g:List Pl) (a:Act) (w:World) (Z:Nat->Prop),l.length+YT l<=m->yU nc P L c R base nt w0 H Z l done E s g a w->(∀j,j∈U↔j∈XY l\/j∈done)->AX P base nt w0 (Fz nc P base nt w0 c K R.length R U) (Vj nc c (YS l)) s ->
   Bh P c (λa w=>∃s g,K s/\Rel H base nt s g a w/\Vi H base w0 s.h g w) (xR nc c) (R.length+YT l) E a w:=by
 intro m;induction m with
 | zero=>
  intro l done E s g a w Z Y I Td h;cases l with
  | cons x r=>simp at Y
  | nil=>
   have hZ:Z=H:=funext λb=>propext (by rw[I.z b];simp[blocks]);subst hZ;have LW:∀j,j∈U↔j∈done:=λj=>by rw[Td j];simp[XY]
   refine pz Q6 R.length R U E s g a w rfl (I.marks.same λj=>by rw[LW j];simp[early]) (λj B C=>?_) (λj B=>by rw[LW j];exact(I.OB j B).1) a2 a1 I.rel I.since h;have:=I.cover j B (λh=>C ((LW j).2 h));simpa[XY] using this
 | succ m ih=>
  intro l done E s g a w Z Y I Td h;cases l with
  | nil=>
   have hZ:Z=H:=funext λb=>propext (by rw[I.z b];simp[blocks]);subst hZ;have LW:∀j,j∈U↔j∈done:=λj=>by rw[Td j];simp[XY]
   refine pz Q6 R.length R U E s g a w rfl (I.marks.same λj=>by rw[LW j];simp[early]) (λj B C=>?_) (λj B=>by rw[LW j];exact(I.OB j B).1) a2 a1 I.rel I.since h;have:=I.cover j B (λh=>C ((LW j).2 h));simpa[XY] using this
  | cons x r=>
   obtain⟨i,p,q⟩:=x;obtain⟨o,J,Jh,a4,b0,a9,A5⟩:=I.head;have Qc:=(WO.1 J).1;have xT:Vj nc c (YS ((i,p,q)::r))=(p,qt (Vb i nc) o,guardOf c o)::Vj nc c (YS r):=by simp[Vj,YS,J]
   rw[xT]at h;have Fy:∀j∈early ((i,p,q)::r),WK c j=true:=λj B=>by obtain⟨p',b,S⟩:=LS.1 B;exact I.late j p' b S
   have QE:∀j p q,(j,p,q)∈r->j≠i:=λj p q B e=>eJ A5 j (po B) (by rw[e];simp);have eQ:∀j,j∈U↔j∈XY r\/j∈i::done:=λj=>by
    rw[Td j];simp only[XY,Jo,QG];constructor
    .rintro ((h|h)|h)
     .exact .inr (.inl h)
     .exact .inl h
     .exact .inr (.inr h)
    .rintro (h|h|h)
     .exact .inl (.inr h)
     .exact .inl (.inl h)
     .exact .inr h
   cases q with
   | some b=>
    have OC:=I.late i p b (Z3 ..);obtain⟨g1,g2,_⟩:=eK J OC;have hp:=I.lp i p _ (Z3 ..) OC;subst hp;have hg:guardOf c o=none:=by simp[guardOf,g2]
    rw[hg]at h;simp only[AX,XL]at h;rw[show zN (qt (Vb i nc) o)=true from g1]at h;obtain⟨ob,mk,h1,h2,h3⟩:=h;obtain⟨Z',I'⟩:=I.pf hD Q6 J (show Hq P o ob mk from h1) h2;have:=ih r (i::done) E _ _ a w Z' (by simp only[VQ,YT]at Y;omega) I' eQ h3;exact this
   | none=>
    have pA:i ∉ early ((i,p,none)::r)++done:=λY=>by
     rcases QX.1 Y with h1|h1
     .obtain⟨p',b,S⟩:=LS.1 h1;rcases QG.1 S with h2|h2
      .cases h2
      .exact QE _ _ _ h2 rfl
     .exact Jh h1
    have pB:i∈Region.ready .any c E:=mem_ready.2 ⟨(I.marks.get i Qc).2 pA,o,J,λe u S=>(I.marks.get' e.on).2 ⟨QX.2 (.inr (a4 e u S)),I.marks.lt _ (QX.2 (.inr (a4 e u S)))⟩⟩;have Oe:r.length+YT r<=m:=by simp only[VQ,YT]at Y;omega
    have first:p=true->∀(f:St) (v:Value),f.h=s.h->YieldsIf P c (λn=>(still L o=true\/Ext w n)\/(DM o=true/\j6 w n)) o v a ->
      Rel Z base nt f g (a.put o.dst v) w->(∀d,o.dst≠some d->get s.fr d=.undef->get f.fr d=.undef)->AX P base nt w0 (Fz nc P base nt w0 c K R.length R U) (Vj nc c (YS r)) f->Bh P c (λa w=>∃s g,K s/\Rel H base nt s g a w/\Vi H base w0 s.h g w) (xR nc c) (R.length+YT r+1) E a w:=by
     intro hp f v hh O W hu Q;have I':=I.next hD J v (s':=f) (by rw[hh];exact Tr.refl _ _ _) W (by rw[hh];exact I.since) hu;have eR:=ih r (i::done) (E.setIfInBounds i true) f g (a.put o.dst v) w Z Oe I' eQ Q;refine QoR (λw=>by rw[LQ J];exact .ext (Ext.refl _)) J (Region.noSelect_spec Ov) _ E a w (.inl (.inr (Ext.refl _))) (λj oj B vB a6=>?_) pB O eR;have Te:=(WO.1 B).1;have LX:=(I.marks.get j Te).1 a6;have Tf:=I.cover j Te λC=>LX (QX.2 (.inr C));simp only[XY,Jo,QG]at Tf;have Vp:∃y∈(YS r).map (λN=>(N.1,N.2,c[N.1]?))++LR c R,y.1=j/\y.2.2=c[j]? := by
      rcases Tf with (h|h)|h
      .exact absurd h vB
      .obtain⟨y,jv,zL⟩:=JA.1 h;exact⟨(y.1,y.2.1,c[y.1]?),QX.2 (.inl (JA.2 ⟨(y.1,y.2.1),JA.2 ⟨y,jv,rfl⟩,rfl⟩)),zL,by rw[zL]⟩
      .exact⟨(j,false,c[j]?),QX.2 (.inr (JA.2 ⟨j,h,rfl⟩)),rfl,rfl⟩
     obtain⟨y,jv,zL,b2⟩:=Vp;have:=Qdw I.marks Fy (r:=(YS r).map (λN=>(N.1,N.2,c[N.1]?))++LR c R) (λx hx=>by
      rcases QX.1 hx with hx|hx
      .obtain⟨z,_,rfl⟩:=JA.1 hx;rfl
      .obtain⟨z,_,rfl⟩:=JA.1 hx;rfl) (b0 hp).2 y jv oj (by rw[zL];exact B)
     rw[zL]at this;refine this.imp id λh=>⟨λw1 w2 hc hs=>?_,h.2⟩;rw[LQ B]at hc;rcases h.1 with (h1|h1)|h1
     .have u:=hc.calm (by rw[QoT];simp[h1.1,h1.2]);rcases hs with (hs|hs)|hs
      .exact .inl (.inl hs)
      .exact .inl (.inr (hs.trans u))
      .exact .inr ⟨hs.1,hs.2.trans (.ext u)⟩
     .exact .inl (.inl h1)
     .have u:=hc.ins (by simpa[DN,qt] using h1.2);rcases hs with (hs|hs)|hs
      .exact .inl (.inl hs)
      .exact .inr ⟨h1.1,(j6.ext hs).trans u⟩
      .exact .inr ⟨hs.1,hs.2.trans u⟩
    have V:p=false->wpOp P c (λ_ _ _=>False) i (λa' n=>xR nc c i w n/\Bh P c (λa w=>∃s g,K s/\Rel H base nt s g a w/\Vi H base w0 s.h g w) (xR nc c) (R.length+YT r) (E.setIfInBounds i true) a' n) a w ->
      Bh P c (λa w=>∃s g,K s/\Rel H base nt s g a w/\Vi H base w0 s.h g w) (xR nc c) (R.length+YT r+1) E a w:=by
     intro hp hi;refine⟨λe=>(by rw[e]at pB;cases pB),λj B=>?_⟩;by_cases vB:j=i
     .subst vB;exact hi
     .obtain⟨eB,oj,K0,KI⟩:=mem_ready.1 B;have Te:=(WO.1 K0).1;have LX:=(I.marks.get j Te).1 eB;have Tf:=I.cover j Te λC=>LX (QX.2 (.inr C));simp only[XY,Jo,QG]at Tf;have a3:=λx hx=>Qdu (r:=(YS r).map (λN=>(N.1,N.2,c[N.1]?))++LR c R) (λx hx=>by
       rcases QX.1 hx with hx|hx
       .obtain⟨z,_,rfl⟩:=JA.1 hx;rfl
       .obtain⟨z,_,rfl⟩:=JA.1 hx;rfl) (a9 hp) x hx
      have a0:OA c done i oj.after.toList=true->False:=λh1=>by
       obtain⟨e,u,S,yV,FA⟩:=Qdt h1;have h2:=((I.marks.get' e.on).1 (KI e (by simpa using u) S)).1;rcases QX.1 h2 with h3|h3
       .rcases FA with h4|h4
        .rw[Fy _ h3]at h4;cases h4
        .exact pA (QX.2 (.inl (by rw[<- h4];exact h3)))
       .exact yV h3
      have eP:j ∉ R:=λh=>by
       rcases a3 (j,false,c[j]?) (QX.2 (.inr (JA.2 ⟨j,h,rfl⟩))) oj K0 with h1|h1
       .have h9:WK c j=true:=h1;rw[(I.OB j h).2.2]at h9;cases h9
       .exact a0 h1
      obtain⟨y,jv,zL⟩:=JA.1 ((Tf.resolve_right eP).resolve_left vB);obtain⟨M,pj,qj⟩:=y;obtain rfl:M=j:=zL;have a7:qj=none:=by
       cases qj with
       | none=>rfl
       | some b=>exact absurd (QX.2 (.inl (LS.2 ⟨pj,b,Jw _ jv⟩))) LX
      subst a7;have pC:WK c M=true:=by
       rcases a3 (M,pj,c[M]?) (QX.2 (.inl (JA.2 ⟨(M,pj),JA.2 ⟨_,jv,rfl⟩,rfl⟩))) oj K0 with h1|h1
       .exact h1
       .exact(a0 h1).elim
      obtain⟨g1,g2,_⟩:=eK K0 pC;obtain⟨⟨ob,mk,obj,a5,k1,_⟩,d,C⟩:=hL M oj K0 pC;obtain⟨F,r2,W⟩:=List.append_of_mem jv;have hl:(i,p,none)::r=((i,p,none)::F)++(M,pj,none)::r2:=by rw[W];rfl
      have I0:=I;rw[hl]at I0;obtain⟨Z',I'⟩:=I0.exec hD Q6 K0 pC C (k1 a.eval w) (λi' p' q' Y hq e=>by
       subst e;rw[<- hl]at Y;cases q' with
       | none=>exact hq rfl
       | some b=>exact LX (QX.2 (.inl (LS.2 ⟨p',b,Y⟩))))
      have hc:YT r=YT (((i,p,none)::F)++(M,pj,some w.heap.size)::r2):=by
       have:=pg (j:=M) (p:=pj) (b:=w.heap.size) (l2:=r2) ((i,p,none)::F);rw[<- hl]at this;simp only[YT]at this;omega
      have pD:YS (((i,p,none)::F)++(M,pj,some w.heap.size)::r2)=YS ((i,p,none)::r):=by rw[hl];simp[YS]
      have eR:=ih _ done (E.setIfInBounds M true) s g (a.put oj.dst (a5 w.heap.size)) (w.alloc obj) Z' (by
       have h1:(((i,p,none)::F)++(M,pj,some w.heap.size)::r2).length=r.length+1:=by rw[W];simp
       have h2:r.length+1+(YT r+1)<=m+1:=Y;rw[h1,<- hc];omega) I' (λk=>by rw[Td k];rw[hl];simp[XY]) (by rw[pD,xT];exact h)
      rw[<- hc]at eR;unfold wpOp;simp only[K0];have hw:Region.wanted oj (yielded c a.tmps)=true:=by simp[Region.wanted,g2]
      rw[Qf hw];refine .inl ?_;unfold Oper.wp;rw[k1 a.eval w];simp only[Oper.upon_value];exact⟨by rw[LQ K0];exact .ext λk Q=>xK w obj k Q,eR⟩
    have skip:∀(f:St),f.h=s.h->Rel Z base nt f g a w->(∀d,get s.fr d=.undef->get f.fr d=.undef)->XK (guardOf c o) a.tmps=false->Zt nt (qt (Vb i nc) o).dst=true->AX P base nt w0 (Fz nc P base nt w0 c K R.length R U) (Vj nc c (YS r)) ⟨Zk f.fr (qt (Vb i nc) o).dst (.raw Go.undef),f.h⟩ ->
      Bh P c (λa w=>∃s g,K s/\Rel H base nt s g a w/\Vi H base w0 s.h g w) (xR nc c) (R.length+YT r+1) E a w:=by
     intro f hh F hu hw ht Q;have O:YieldsIf P c (λn=>(still L o=true\/Ext w n)\/(DM o=true/\j6 w n)) o Go.undef a:=.inr ⟨by rw[Om];exact hw,rfl⟩;have J4:Rel Z base nt ⟨Zk f.fr o.dst (.raw Go.undef),f.h⟩ g (a.put o.dst Go.undef) w:=F.skip ht;have zO:∀d,o.dst≠some d->get s.fr d=.undef->get (Zk f.fr o.dst (.raw Go.undef)) d=.undef:=λd C h=>by rw[eI C];exact hu d h
     cases p with
     | true=>exact first rfl ⟨Zk f.fr o.dst (.raw Go.undef),f.h⟩ Go.undef hh O J4 zO Q
     | false=>
      refine V rfl (O.wpOp J (.inl (.inr (Ext.refl _))) ⟨by rw[LQ J];exact .ext (Ext.refl _),?_⟩);have I':=I.next hD J Go.undef (s':=⟨Zk f.fr o.dst (.raw Go.undef),f.h⟩) (by rw[show (⟨Zk f.fr o.dst (.raw Go.undef),f.h⟩:St).h=s.h from hh];exact Tr.refl _ _ _) J4 (by rw[show (⟨Zk f.fr o.dst (.raw Go.undef),f.h⟩:St).h=s.h from hh];exact I.since) zO;exact ih r (i::done) _ _ g _ w Z Oe I' eQ Q
    have go:∀(f:St),f.h=s.h->Rel Z base nt f g a w->(∀d,get s.fr d=.undef->get f.fr d=.undef)->XK (guardOf c o) a.tmps=true->XL P base nt w0 p (qt (Vb i nc) o) (AX P base nt w0 (Fz nc P base nt w0 c K R.length R U) (Vj nc c (YS r))) f ->
      Bh P c (λa w=>∃s g,K s/\Rel H base nt s g a w/\Vi H base w0 s.h g w) (xR nc c) (R.length+YT r+1) E a w:=by
     intro f hh F hu hw Q;cases p with
     | true=>
      obtain⟨d,cX,kr,ht,Q⟩:=Q;have KI:∃v,QF Z f.h g w d v/\(∀n:World,(∀b,b<w.heap.size->n.heap[b]? = w.heap[b]?)->(execOp a.eval o).run P n=.ok (.value v) n)/\(DM o=true->∀n:World,j6 w n->(execOp a.eval o).run P n=.ok (.value v) n):=by
       cases Tg:DM o
       .obtain⟨v,hv,Zl⟩:=cX Z g a w F;exact⟨v,hv,Zl,λh=>by cases h⟩
       .obtain⟨v,hv,Zl⟩:=kr (by simpa[DM,qt] using Tg) Z g a w F;exact⟨v,hv,λn u=>Zl n (.ext u),λ_=>Zl⟩
      obtain⟨v,hv,Zl,a8⟩:=KI;have O:YieldsIf P c (λn=>(still L o=true\/Ext w n)\/(DM o=true/\j6 w n)) o v a:=.inl ⟨by rw[Om];exact hw,λn u=>u.elim (λu=>u.elim (λhs=>QoQ b1 hs (Zl w λ_ _=>rfl) n) (λu=>Zl n u)) (λu=>a8 u.1 n u.2)⟩;have r2:Rel Z base nt ⟨Zk f.fr o.dst d,f.h⟩ g (a.put o.dst v) w:=by
       cases C:o.dst with
       | none=>exact F
       | some t=>have ht:Zt nt o.dst=true:=ht;rw[C]at ht;exact F.to (Tr.ext F.o λ_ _=>rfl) F.o (vz ht) hv
      exact first rfl ⟨Zk f.fr o.dst d,f.h⟩ v hh O r2 (λd' C h=>by rw[eI C];exact hu d' h) Q
     | false=>
      refine V rfl ?_;unfold wpOp;simp only[J,Om,hw,VB];refine .inl ?_;have:=Q.ae Q6 Z trivial g a w F (by rw[hh];exact I.since);rw[Qds]at this;refine Oper.wp_mono (λa' n hq=>?_) this;obtain⟨u,d,h',Qk,v,hF,r',b',T,rfl⟩:=hq;refine⟨by rw[LQ J];exact u,?_⟩;have I':=I.next hD J v (s':=⟨Zk f.fr o.dst d,h'⟩) (by rw[hh]at T;exact T) r' b' (λd' C h=>by rw[eI C];exact hu d' h);exact ih r (i::done) _ _ Qk _ n Z Oe I' eQ hF
    show Bh P c _ (xR nc c) (R.length+YT r+1) E a w;simp only[AX]at h;split at h
    .rename_i hg;exact go s rfl I.rel (λ_ h=>h) (by rw[hg];rfl) h
    .rename_i x hg;exact skip s rfl I.rel (λ_ h=>h) (by rw[hg];rfl) h.1 h.2
    .rename_i t x hg;split at h
     .rename_i y O;have W:=I.rel.fr t;rw[O]at W;have hv:=JJ W;have S:=o6 hv;have Bi:∀(e:D) d,get s.fr d=.undef->get (put s.fr t e) d=.undef:=λe d h=>by
       rw[GV,Qe (λe=>by rw[e,O]at h;cases h)];exact h
      by_cases wC:y=x
      .refine go ⟨put s.fr t (.raw (.bool x)),s.h⟩ rfl (I.rel.tell (t:=t) (d:=.raw (.bool x)) (by rw[hv,wC];exact .cl _ _ (.raw _))) (Bi _) ?_ (h.1 wC);rw[hg];simp[XK,S,wC]
      .have Hi:y=(!x):=by cases x<;>cases y<;>simp_all
       have:=h.2 Hi;refine skip ⟨put s.fr t (.raw (.bool !x)),s.h⟩ rfl (I.rel.tell (t:=t) (d:=.raw (.bool (!x))) (by rw[hv,Hi];exact .cl _ _ (.raw _))) (Bi _) ?_ this.1 this.2;rw[hg];simp[XK,S,wC]
     .rename_i vs O;have W:=I.rel.fr t;rw[O]at W;refine skip s rfl I.rel (λ_ h=>h) ?_ h.1 h.2;rw[hg];simp[XK,o7 (JJ W)]
     .exact h.elim
def QdF:Option Nat->Option Nat->Bool
 | some a,some b=>!Nat.beq a b
 | _,_=>true
def QdG(a:Array Oper):Bool:=(List.range a.size).all λi=>!WK a i || (List.range a.size).all λj=>Nat.beq i j || QdF ((a[i]?).bind (·.dst)) ((a[j]?).bind (·.dst))
def QdH:D->Bool
 | .undef=>true
 | _=>false
def Cy(a:Array Oper)(b:List (Nat × D)):Bool:=(List.range a.size).all λi=>!WK a i || (match (a[i]?).bind (·.dst) with|some d=>QdH (get b d)|none=>true)
def QdI(L:Jr)(a:Array Oper):Bool:=a.toList.all λo=>match o.op with
 | .alloc t=>(ty L t).isSome&&o.dst.isSome
 | .makeMap _ none=>o.dst.isSome
 | _=>true
def eT(a:Array Oper)(l:List (Nat × Bool)):List Nat->Bool
 | []=>true
 | i::r=>!Vb i r&&!Vb i (l.map (·.1))&&!WK a i&&eT a l r
def eU{a}{l:List (Nat × Bool)}:∀{R:List Nat},eT a l R=true->R.Nodup/\∀i∈R,i ∉ l.map (·.1)/\WK a i=false
 | [],_=>⟨List.nodup_nil,σ⟩
 | i::r,h=>by
  simp only[eT,ZX,jl]at h;obtain⟨⟨⟨e,d⟩,m⟩,k⟩:=h;obtain⟨g,f⟩:=eU k;refine⟨Z8.2 ⟨λb=>(by rw[xQ.2 b]at e;cases e),g⟩,λj c=>?_⟩;rcases QG.1 c with rfl|c
  .exact⟨λb=>(by rw[xQ.2 b]at d;cases d),m⟩
  .exact f j c
def DP(nc:List Nat)(L:Jr)(a:Array Oper)(l:List (Nat × Bool))(R:List Nat):Bool:=Region.noSelect a&&Nat.beq (R.length+l.length) a.size&&eD (l.map (·.1)++R) a.size&&Fw nc L a R (l.map λb=>(b.1,b.2,a[b.1]?)) []&&QdG a&&QdI L a&&eT a l R&&Bj a R (l.map (·.1))
def eV(L:Jr)(a:Array Oper)(l:List (Nat × Bool)):Bool:=DP [] L a l []
def Qo9{a}(h:QdG a=true):S9 a:=by
 intro i j o n d m k e c l b;have g:=jo.1 h i (Sj.2 (WO.1 e).1);rw[k,EU,R9]at g;have f:=jo.1 g j (Sj.2 (WO.1 c).1);simp only[e,c,cr,l,b,QdF,NU,EU,Bool.or_false,WG]at f;exact m f
def Qpb{a:Array Oper}{e}(h:Cy a e=true):∀i o d,WK a i=true->a[i]? = some o->o.dst=some d->get e d=.undef:=by
 intro i o d f c g;have b:=jo.1 h i (Sj.2 (WO.1 c).1);rw[f]at b;simp only[EU,R9,c,cr,g]at b;unfold QdH at b;split at b
 .assumption
 .cases b
def Qpc{P}{L}(n:Jl P L){a:Array Oper}(h:QdI L a=true):∀j o,a[j]? = some o->WK a j=true->(∃i mk,Hq P o i mk)/\∃d,o.dst=some d:=by
 intro j o f m;have c:=(eK f m).1;have l:o∈a.toList:=by have:=Array.mem_of_getElem? f;simpa using this
 have b:=jo.1 h o l;unfold zN at c;cases e:o.op<;>rw[e]at c b<;>first|cases c|skip
 .rename_i t;simp only[ZX]at b;obtain⟨y,k⟩:=Fa.1 b.1;exact⟨⟨_,_,Qdq n e k⟩,Fa.1 b.2⟩
 .rename_i t g;cases g with
  | some x=>cases c
  | none=>exact⟨⟨_,_,Qdr e .i64⟩,Fa.1 b⟩
def QdJ{L}{a:Array Oper}{R}:∀{l:List (Nat × Bool)} {done:List Nat},Fw nc L a R (l.map λb=>(b.1,b.2,a[b.1]?)) done=true->∀i p,(i,p)∈l->WK a i=true->p=false
 | [],_,_,_,_,h,_=>by cases h
 | (j,q)::r,done,h,i,p,e,d=>by
  simp only[Jo]at h;cases c:a[j]? with
  | none=>rw[c]at h;cases h
  | some o=>
   rw[c]at h;simp only[Fw,ZX,jl]at h;rcases QG.1 e with h1|h1
   .cases h1;cases q with
    | false=>rfl
    | true=>have:=h.1.2;simp only[ZX,jl,d]at this;cases this.1
   .exact QdJ h.2 i p h1 d
def Cz(l:List (Nat × Bool)):List En:=l.map λx=>(x.1,x.2,none)
def pE:∀l:List (Nat × Bool),YS (Cz l)=l
 | []=>rfl
 | x::r=>congrArg (x::·) (pE r)
def QdK:∀l,early (Cz l)=[]
 | []=>rfl
 | (_,_)::r=>QdK r
def pF:∀l,blocks (Cz l)=[]
 | []=>rfl
 | (_,_)::r=>pF r
def QdL:∀l,YT (Cz l)=l.length
 | []=>rfl
 | (_,_)::r=>by show YT (Cz r)+1=_;rw[QdL r];rfl
def eW{l}{i}{p}{q}(h:(i,p,q)∈Cz l):(i,p)∈l/\q=none:=by
 obtain⟨x,hx,e⟩:=JA.1 h;cases e;exact⟨hx,rfl⟩
def QdM{L}(n:Jl P L)(V:base<=w0.w.heap.size){v}{c}{Q}{s:St}(B:P.follows .mixedOrders=true)(l:List (Nat × Bool))(R:List Nat)(t:DP nc L c l R=true)(E:Cy c s.fr=true)(h:AX P base nt w0 (Fz nc P base nt w0 c (λs=>Q .normal s) R.length R (l.map (·.1))) (Vj nc c l) s):A P base nt w0 (.region v c true) Q s:=by
 intro Z z g a w r b;simp only[DP,ZX]at t;obtain⟨⟨⟨⟨⟨⟨⟨T,S⟩,O⟩,u⟩,N⟩,K⟩,J⟩,H⟩:=t;obtain⟨F,c2⟩:=eU J;have f:=Sq S;have M:Marks c (Array.replicate c.size false) []:=⟨σ,λj e=>by simp[e],λj=>by
  rcases B7 j c.size with m|m
  .simp[m]
  .simp[m],λj e=>by cases e⟩
 have U:Vi Z base w0 s.h g { w with drawn:=w.drawn+1 }:=⟨⟨b.1.os,b.1.tape,b.1.output,b.1.size,b.1.block⟩,⟨b.2.1.Kl,b.2.1.obj,b.2.1.shape⟩,⟨b.2.2.new,b.2.2.own⟩⟩;have I:yU nc P L c R base nt w0 Z Z (Cz l) [] (Array.replicate c.size false) s g a { w with drawn:=w.drawn+1 }:=by
  refine⟨by rw[pE];exact u,λj e _=>?_,λj e=>⟨σ,by have:=(c2 j e).1;simpa[XY,Cz] using this,(c2 j e).2⟩,by rw[QdK];exact M,λi p b h=>?_,λi p q h k=>QdJ u i p (eW h).1 k,λb=>by rw[pF];simp,λi p b h=>?_,by rw[pF];exact List.nodup_nil,λi p q h k o d x C=>Qpb E i o d k x C,r.ext λ_ _=>rfl,U,λi p b h=>?_⟩
  .have:=Qdn O j e;simpa[XY,Cz] using this
  .cases (eW h).2
  .cases (eW h).2
  .cases (eW h).2
 have:=Qo2 n T V (Qo9 N) (Qpc n K) F H _ (Cz l) [] _ s g a _ Z (Qs _) I (λj=>by simp[XY,Cz]) (by rw[pE];exact h);rw[QdL,f]at this;exact wp_region_any B (ez (λa w y=>y) _ _ _ _ this)
def Qpd{L}(e:Jl P L)(g:base<=w0.w.heap.size){b}{a}{Q}{s:St}(c:P.follows .mixedOrders=true)(l)(f:eV L a l=true)(d:Cy a s.fr=true)(h:AX P base nt w0 (λs=>Q .normal s) (Vj [] a l) s):A P base nt w0 (.region b a true) Q s:=
 QdM e g c l [] f d h
def Qpe{L}(e:Jl P L)(g:base<=w0.w.heap.size){b}{a}{Q}{k}{s:St}(c:P.follows .mixedOrders=true)(l)(f:eV L a l=true)(d:Cy a s.fr=true)(h:AX P base nt w0 (λs=>Qw P base nt w0 Q k .normal s) (Vj [] a l) s):Qw P base nt w0 Q (.code (.region b a true)::k) .normal s:=by
 simp only[Qw];exact Qpd e g c l f d h
def QdN{L}(e:Jl P L)(g:base<=w0.w.heap.size){b}{a}{Q}{k}{s:St}(c:P.follows .mixedOrders=true)(l:List (Nat × Bool))(R:List Nat)(f:DP nc L a l R=true)(d:Cy a s.fr=true)(h:AX P base nt w0 (Fz nc P base nt w0 a (λs=>Qw P base nt w0 Q k .normal s) R.length R (l.map (·.1))) (Vj nc a l) s):Qw P base nt w0 Q (.code (.region b a true)::k) .normal s:=by
 simp only[Qw];exact QdM e g c l R f d h
end
section
variable (P:Program)(base:Nat)(w0:Start)(X:Cx)(nt:Nat)
def LY(a:Bool)(o:Oper)(F:St->Prop)(stop:Prop)(s:St):Prop:=match yS X s o.op with
 | some (p,d)=>p/\Zt nt o.dst=true/\F ⟨Zk s.fr o.dst d,s.h⟩
 | none=>match a with
  | true=>False
  | false=>match Bf X s o.op with
   | some (p,h,d)=>p/\Zt nt o.dst=true/\F ⟨Zk s.fr o.dst d,h⟩
   | none=>stop
def Bk(K:St->Prop):List (Bool × Oper × G)->St->Prop
 | [],s=>K s
 | (a,o,g)::r,s=>match g with
  | none=>LY X nt a o (Bk K r) (AX P base nt w0 K ((a,o,none)::r) s) s
  | some (none,_)=>Zt nt o.dst=true/\Bk K r ⟨Zk s.fr o.dst (.raw Go.undef),s.h⟩
  | some (some t,b)=>match get s.fr t with
   | .raw (.bool x)=>(Fs b x=true->LY X nt a o (Bk K r) (AX P base nt w0 K ((a,o,none)::r) ⟨put s.fr t (.raw (.bool b)),s.h⟩) ⟨put s.fr t (.raw (.bool b)),s.h⟩) /\
     (Fs b x=false->Zt nt o.dst=true/\Bk K r ⟨Zk (put s.fr t (.raw (.bool (!b)))) o.dst (.raw Go.undef),s.h⟩)
   | .raw (.tuple _)=>Zt nt o.dst=true/\Bk K r ⟨Zk s.fr o.dst (.raw Go.undef),s.h⟩
   | _=>False
end
section
variable {nc:List Nat}{P:Program}{base nt:Nat}{w0:Start}
def Qpf{X}(H:q6 P X)(Q6:base<=w0.w.heap.size){B}{o}{F N}{stop}{s}(S:∀s,F s->N s)(O:stop->XL P base nt w0 B o N s)(h:LY X nt B o F stop s):XL P base nt w0 B o N s:=by
 unfold LY at h;split at h
 .rename_i p d c;have E:=Qc8 (P:=P) (base:=base) (nt:=nt) H c h.1;have i:=S _ h.2.2;cases B with
  | true=>
   refine⟨d,E,λL=>?_,h.2.1,i⟩;unfold DM at L;split at L
   .rename_i t x e;simp only[yS,e]at c;exact Qcn H.L e c h.1
   .cases L
  | false=>
   have f:zN o=false:=by
    cases f:zN o with
    | false=>rfl
    | true=>
     unfold zN at f;cases e:o.op<;>rw[e]at f<;>first|cases f|skip
     all_goals
      rw[e]at c;simp[yS]at c
   simp only[XL,f];intro Z z C a w r b;obtain⟨v,I,j⟩:=E Z C a w r;unfold Oper.wp;rw[j w λ_ _=>rfl];simp only[Oper.upon_value];refine⟨.ext (Ext.refl _),_,_,C,v,i,?_,b,Tr.refl _ _ _,rfl⟩;cases K:o.dst with
   | none=>exact r
   | some t=>have g:=h.2.1;rw[K]at g;exact r.to (Tr.ext r.o λ_ _=>rfl) r.o (vz g) I
 .split at h
  .exact h.elim
  .split at h
   .rename_i p T d c;have E:=Qc9 (P:=P) (base:=base) (nt:=nt) H c h.1;have i:=S _ h.2.2;have g:=h.2.1;cases f:zN o with
    | true=>
     unfold zN at f;cases e:o.op<;>rw[e]at f<;>first|cases f|skip
     .rename_i t;simp only[e,Bf]at c;split at c
      .rename_i y Y;simp only[Q4,Zh]at c;obtain⟨_,rfl,rfl⟩:=c;have f:zN o=true:=by simp[zN,e]
       simp only[XL,f];exact⟨_,_,Qdq H.L e Y,g,i⟩
      .cases c
     .rename_i t W;cases W with
      | some x=>cases f
      | none=>
       simp only[e,Bf]at c;have hq:∃q,T=s.h++[QR q 0 []]/\d=.mref s.h.length 0:=by
        unfold Oi at c;split at c
        .split at c;all_goals
          simp only[Q4,Zh]at c;obtain⟨_,rfl,rfl⟩:=c;exact⟨_,rfl,rfl⟩
        .cases c
       obtain⟨q,rfl,rfl⟩:=hq;have f:zN o=true:=by simp[zN,e]
       simp only[XL,f];exact⟨_,_,Qdr e q,g,i⟩
    | false=>
    simp only[XL,f];intro Z z C a w r b;have n:DN o=false:=by
     cases J:DN o with
     | false=>rfl
     | true=>
      unfold DN at J;split at J
      .rename_i e;simp[Bf,e]at c
      .cases J
    obtain⟨v,V,M,j,k,R,I,Q,U⟩:=E Z C a w r (JL Q6 b.1.size);have m:∀u,u=v->Rel Z base nt ⟨Zk s.fr o.dst d,T⟩ M (a.put o.dst u) V:=by
     rintro u rfl;cases K:o.dst with
     | none=>exact r.AW k R u
     | some t=>rw[K]at g;exact r.to k R (vz g) I
    unfold Oper.wp;rcases j with j|⟨j,hu⟩
    .rw[j];simp only[Oper.upon_value];exact⟨.mk (λl=>U (by simp only[Fv,ZX]at l;exact l.1)) n,_,_,M,_,i,m v rfl,b.step k Q,k,rfl⟩
    .rw[j];simp only[Oper.upon_skip];exact⟨.mk (λl=>U (by simp only[Fv,ZX]at l;exact l.1)) n,_,_,M,_,i,m _ hu.symm,b.step k Q,k,rfl⟩
   .exact O h
def FB{X}(a:q6 P X)(c:base<=w0.w.heap.size){K}:∀(l:List (Bool × Oper × G)) (s:St),Bk P base w0 X nt K l s->AX P base nt w0 K l s
 | [],s,h=>h
 | (d,o,g)::r,s,h=>by
  have f:∀s,LY X nt d o (Bk P base w0 X nt K r) (AX P base nt w0 K ((d,o,none)::r) s) s->XL P base nt w0 d o (AX P base nt w0 K r) s:=λs i=>
   Qpf a c (λs=>FB a c r s) (λh=>h) i
  simp only[Bk]at h;simp only[AX];split at h
  .exact f s h
  .exact⟨h.1,FB a c r _ h.2⟩
  .rename_i t b;split at h
   .rename_i x hx;simp only[Qda,jr,j5,ne_eq]at h;refine⟨λe=>f _ (h.1 e),λe=>?_⟩;have:=h.2 (by rw[e];cases b<;>simp);exact⟨this.1,FB a c r _ this.2⟩
   .exact⟨h.1,FB a c r _ h.2⟩
   .exact h.elim
def Ye(a:D):D->Prop
 | .imm z n r=>match a with
  | .imm b e d=>b=z/\e=n/\∀i,i<n->d i=r i
  | _=>False
 | .raw v=>a=.raw v
 | .nil=>a=.nil
 | .undef=>a=.undef
 | .ip c=>a=.ip c
 | .ref l g o n=>a=.ref l g o n
 | .ptr l g i j=>a=.ptr l g i j
 | .mref l g=>a=.mref l g
 | .clo f n c=>a=.clo f n c
 | .agg c=>a=.agg c
 | .tup c=>a=.tup c
def KQ:List D->List D->Prop
 | [],[]=>True
 | b::a,d::r=>Ye b d/\KQ a r
 | _,_=>False
def Qph{N}{w}{g d}{v}(h:Ye g d)(c:Cl N w g v):Cl N w d v:=by
 cases d<;>simp only[Ye]at h;case imm z n r=>
  split at h
  .obtain⟨rfl,rfl,h⟩:=h;cases c with
   | imm _ _ _ a f b o k t p l s m=>
    exact .imm _ _ _ a f b o k t p (λi e=>by rw[<- h i e];exact l i e) s (λi j e q=>by rw[<- h i e];exact m i j e q)
  .exact h.elim
 all_goals subst h;exact c
def QdP:∀{a b:List D},KQ a b->a.length=b.length/\∀i,i<b.length->Ye (nth a i) (nth b i)
 | [],[],_=>⟨rfl,λi c=>by simp at c⟩
 | [],_::_,h=>h.elim
 | _::_,[],h=>h.elim
 | j::g,d::r,h=>by
  obtain⟨f,e⟩:=QdP h.2;refine⟨by simp[f],λi c=>?_⟩;cases i with
  | zero=>exact h.1
  | succ i=>have:=e i (by simpa using c);simpa[nth] using this
def Qpi{Z}{h}{a}{w}{b d}{v}(e:Ye b d)(r:QF Z h a w b v):QF Z h a w d v:=by
 cases d<;>simp only[Ye]at e;case imm z n c=>
  split at e
  .cases r with
   | cl _ _ f=>exact .cl _ _ (Qph (d:=.imm z n c) (by simpa only[Ye] using e) f)
  .exact e.elim
 all_goals subst e;exact r
def QI.args{P}{f}{F}{a b}{R}(h:QI P f F b R)(e:KQ a b):QI P f F a R:=λZ base w d c m l k o j=>by
 obtain⟨p,n⟩:=QdP e;exact h Z base w d c m l k ω λi g=>Qpi (n i g) (j i ω)
def Q9.args{P}{f}{a b}{R}(h:Q9 P f b R)(e:KQ a b):Q9 P f a R:=QI.args h e
def Th(U:base<=w0.w.heap.size){K}{g}{u:TypeId}{pos}{i}{N}{r}{s}{x}{c}{Q:Array TypeId}{f}{n}{t}(J:Qn P f)
  (E:JU (Qp s.fr x)=some (f,n,t)) {q:List D} (m:match YP (Wl s.h 4) (Jm n t (c.toList.map (Qp s.fr))) with|some (p,j)=>p/\KQ j q|none=>False) {R:D->List Ob->Prop} (l:Q9 P f q R)
  (V:∀d h,R d h->d.flat=true/\∀o∈h,o.flat) (F:Zt nt g=true) (I:∀d h,R d h->AX P base nt w0 K r ⟨Zk s.fr g (d.shift s.h.length),s.h++h.map (Ob.shift s.h.length)⟩) :
  AX P base nt w0 K ((false,⟨g,.call ⟨.value x,c,Q⟩,u,pos,i,N⟩,none)::r) s:=by
 simp only[AX,XL,zN];intro Z z C a w y b;split at m
 .rename_i p j L;obtain⟨H,k⟩:=m;have l:=l.args k;refine Oper.wp_mono (λY W ⟨k,d,h,S,M,B,O,T,v,e⟩=>⟨λ_=>k,_,_,S,v,I d h M,B,O,T,e⟩) (Qde U J rfl E L H l V F C a w y b _)
 .exact m.elim
def OG(E:base<=w0.w.heap.size){Q}{k}{b}{q:TypeId}{pos}{c}{B}{r}{s}{x}{a}{C:Array TypeId}{f}{j}{n}(w:Qn P f)
  (t:JU (Qp s.fr x)=some (f,j,n)) {m:List D} (i:match YP (Wl s.h 4) (Jm j n (a.toList.map (Qp s.fr))) with|some (p,e)=>p/\KQ e m|none=>False) {R:D->List Ob->Prop} (g:Q9 P f m R)
  (F:∀d h,R d h->d.flat=true/\∀o∈h,o.flat) (u:Zt nt b=true) (l:∀d h,R d h->Qw P base nt w0 Q (.ops r::k) .normal ⟨Zk s.fr b (d.shift s.h.length),s.h++h.map (Ob.shift s.h.length)⟩) :
  Qw P base nt w0 Q (.ops ((⟨b,.call ⟨.value x,a,C⟩,q,pos,c,B⟩,none)::r)::k) .normal s:=by
 simp only[Qw]at l ⊢;split at i
 .rename_i p e z;obtain⟨v,y⟩:=i;have g:=g.args y;exact QoH E w rfl t z v g F u l
 .exact i.elim
end
section
variable {nc:List Nat}{P:Program}{base nt:Nat}{w0:Start}
def XL.mono{f}{o}{F j}(g:∀s,F s->j s){s}(h:XL P base nt w0 f o F s):XL P base nt w0 f o j s:=by
 cases f with
 | true=>obtain⟨d,e,c,i,n⟩:=h;exact⟨d,e,c,i,g _ n⟩
 | false=>
  simp only[XL]at h ⊢;split at h
  .obtain⟨l,mk,e,c,i⟩:=h;exact⟨l,mk,e,c,g _ i⟩
  intro Z z k a w r b;exact Oper.wp_mono (λq w' ⟨m,d,h',p,v,e,c⟩=>⟨m,d,h',p,v,g _ e,c⟩) (h Z z k a w r b)
def AX.mono{K b}(a:∀s,K s->b s):∀(l:List (Bool × Oper × G)) (s:St),AX P base nt w0 K l s->AX P base nt w0 b l s
 | [],s,h=>a s h
 | (c,o,g)::r,s,h=>by
  simp only[AX]at h ⊢;split at h
  .exact XL.mono (AX.mono a r) h
  .exact⟨h.1,AX.mono a r _ h.2⟩
  .split at h
   .exact⟨λe=>XL.mono (AX.mono a r) (h.1 e),λe=>⟨(h.2 e).1,AX.mono a r _ (h.2 e).2⟩⟩
   .exact⟨h.1,AX.mono a r _ h.2⟩
   .exact h.elim
end
end Go.Fg
namespace Go.Fg
attribute [go_sem_proc] reduceIte reduceDIte dreduceIte dreduceDIte reduceCtorEq List.reduceReplicate Nat.reduceAdd Nat.reduceSub Nat.reduceMul Nat.reduceBEq Nat.reduceLT Nat.reduceGT Nat.reduceLeDiff Nat.reduceEqDiff Nat.reduceBneDiff Nat.reduceBeqDiff Nat.reduceSubDiff Nat.reduceBNe Nat.reduceDiv Nat.reduceMod Nat.reduceSucc Nat.reducePow Nat.reduceDvd Int.reduceToNat Int.reduceLE Int.reduceLT Int.reduceGT Int.reduceGE Int.reduceEq Int.reduceNe Int.reduceAdd Int.reduceSub Int.reduceMul Int.reduceNeg Int.reduceDiv Int.reduceMod Int.reducePow Int.reduceBEq Int.reduceBNe Int.reduceOfNat Int.reduceNegSucc Int.reduceNatCast Int.reduceNatCast' Int.reduceAbs Int.reduceDvd
def Vk{c:Sort _}{a b:c}(h:a=b):a=b:=h
@[go_sem] theorem QFj(a b:Nat):Nat.beq a b=(a==b):=by
 rw[wx];simp[WG]
@[go_sem] theorem Qpj(a b):Nat.blt a b=decide (a<b):=by
 rw[wx];simp[xH]
@[go_sem] theorem eX(a b:Nat):Nat.ble a b=decide (a<=b):=by
 rw[wx];simp[Lk]
def hx(P:Program)(a:Nat)(c:Start)(Q:Exit->St->Prop)(X:Cx)(b n:Nat)(k:List Item)(s:St):Prop:=(exec X b n k s).holds P a b c Q
def hz(P:Program)(a:Nat)(b:Start)(Q:Exit->St->Prop)(X:Cx)(c n:Nat)(k:List Item)(s:St):Prop:=hx P a b Q X c n k s
def WW(b:Bool)(A B:Prop):Prop:=(b=true->A)/\(b=false->B)
def Ji(b:Bool)(A:Prop):Prop:=b=true/\A
section
variable {P:Program}{base:Nat}{w0:Start}{Q:Exit->St->Prop}{X:Cx}{nt n:Nat}{k:List Item}{s:St}
@[go_sem ↓] theorem QFk{B}:WW true (hz P base w0 Q X nt n k s) B=hx P base w0 Q X nt n k s:=by simp[WW,hz]
@[go_sem ↓] theorem QFl{A}:WW false A (hz P base w0 Q X nt n k s)=hx P base w0 Q X nt n k s:=by simp[WW,hz]
def q7{b}{c}{a}(e:b=true->hx P base w0 Q X nt n k s)(d:b=false->hx P base w0 Q X nt n c a):WW b (hz P base w0 Q X nt n k s) (hz P base w0 Q X nt n c a):=⟨e,d⟩
@[go_sem] theorem QFm:hx P base w0 Q X nt (n+1) [] s=Q .normal s:=Vk rfl
@[go_sem] theorem QFn{a}:hx P base w0 Q X nt (n+1) (.inBlock a::k) s=hx P base w0 Q X nt n k s:=Vk rfl
@[go_sem] theorem QFo:hx P base w0 Q X nt (n+1) (.code .skip::k) s=hx P base w0 Q X nt n k s:=Vk rfl
@[go_sem] theorem QFp{l}:hx P base w0 Q X nt (n+1) (.code (.label l)::k) s=hx P base w0 Q X nt n k s:=Vk rfl
@[go_sem] theorem QFq{a b}:hx P base w0 Q X nt (n+1) (.code (.seq a b)::k) s=hx P base w0 Q X nt n (.code a::.code b::k) s:=Vk rfl
@[go_sem] theorem QFr{a}{c}:hx P base w0 Q X nt (n+1) (.code (.block a c)::k) s=hx P base w0 Q X nt n (.code c::.inBlock a::k) s:=Vk rfl
@[go_sem] theorem QFs:hx P base w0 Q X nt (n+1) (.inScope::k) s=hx P base w0 Q X nt n k s:=Vk rfl
@[go_sem] theorem QFt{c}:hx P base w0 Q X nt (n+1) (.code (.scope c)::k) s=hx P base w0 Q X nt n (.code c::.inScope::k) s:=Vk rfl
@[go_sem] theorem QFu{c}{a b}:hx P base w0 Q X nt (n+1) (.code (.cond c a b)::k) s=(match Qp s.fr c with
  | .raw (.bool x)=>WW x (hz P base w0 Q X nt n (.code a::k) s) (hz P base w0 Q X nt n (.code b::k) s)
  | _=>False):=by
 simp only[hx,exec];generalize Qp s.fr c=d;cases d with
 | raw v=>cases v<;>rfl
 | _=>rfl
@[go_sem] theorem QFv{a}:hx P base w0 Q X nt (n+1) (.code (.exit a)::k) s=(match kj a k with
  | some b=>hx P base w0 Q X nt n b s
  | none=>Q (.exit a) s):=by
 simp only[hx,exec];generalize kj a k=r;cases r<;>rfl
@[go_sem] theorem QFw:hx P base w0 Q X nt (n+1) (.code .ret::k) s=Q .ret s:=Vk rfl
@[go_sem] theorem QFx{b}{a}:hx P base w0 Q X nt (n+1) (.code (.region b a false)::k) s=hx P base w0 Q X nt n (.ops (Cq a)::k) s:=Vk rfl
@[go_sem] theorem QFy{b}{a}:hx P base w0 Q X nt (n+1) (.code (.region b a true)::k) s=Qw P base nt w0 Q (.code (.region b a true)::k) .normal s:=Vk rfl
@[go_sem] theorem QFz{c}:hx P base w0 Q X nt (n+1) (.code (.loop c)::k) s=Qw P base nt w0 Q (.code (.loop c)::k) .normal s:=Vk rfl
@[go_sem] theorem QFA:hx P base w0 Q X nt (n+1) (.ops []::k) s=hx P base w0 Q X nt n k s:=Vk rfl
@[go_sem ↓] theorem QFB{A}:Ji true A=A:=by simp[Ji]
@[go_sem] theorem QFC{o:Oper}{r}:hx P base w0 Q X nt (n+1) (.ops ((o,none)::r)::k) s=(match yS X s o.op with
  | some (p,d)=>p/\(match Zt nt o.dst with|true=>hx P base w0 Q X nt n (.ops r::k) ⟨Zk s.fr o.dst d,s.h⟩|false=>False)
  | none=>match Bf X s o.op with
   | some (p,h,d)=>p/\(match Zt nt o.dst with|true=>hx P base w0 Q X nt n (.ops r::k) ⟨Zk s.fr o.dst d,h⟩|false=>False)
   | none=>Qw P base nt w0 Q (.ops ((o,none)::r)::k) .normal s):=by
 simp only[hx,exec];generalize yS X s o.op=b;generalize Bf X s o.op=a;cases b with
 | some e=>cases Zt nt o.dst<;>simp[Tree.holds]
 | none=>cases a with
  | some c=>cases Zt nt o.dst<;>simp[Tree.holds]
  | none=>rfl
def QdQ{o:Oper}{t}{b}{r}(a:Zt nt o.dst=true):hx P base w0 Q X nt (n+1) (.ops ((o,some (some t,b))::r)::k) s=(match get s.fr t with
  | .raw (.bool x)=>WW (Fs b x) (hz P base w0 Q X nt n (.ops ((o,none)::r)::k) ⟨put s.fr t (.raw (.bool b)),s.h⟩) (hz P base w0 Q X nt n (.ops r::k) ⟨Zk (put s.fr t (.raw (.bool (!b)))) o.dst (.raw Go.undef),s.h⟩)
  | .raw (.tuple _)=>hx P base w0 Q X nt n (.ops r::k) ⟨Zk s.fr o.dst (.raw Go.undef),s.h⟩
  | _=>False):=by
 simp only[hx,exec];generalize get s.fr t=d;cases d with
 | raw v=>
  cases v with
  | bool x=>simp[WW,hz,hx,a,Tree.holds]
  | tuple c=>simp[a]
  | _=>rfl
 | _=>rfl
@[go_sem] theorem QFD{o:Oper}{t}{r}(a:Zt nt o.dst=true):hx P base w0 Q X nt (n+1) (.ops ((o,some (some t,true))::r)::k) s=(match get s.fr t with
  | .raw (.bool x)=>WW x (hz P base w0 Q X nt n (.ops ((o,none)::r)::k) ⟨put s.fr t (.raw (.bool true)),s.h⟩) (hz P base w0 Q X nt n (.ops r::k) ⟨Zk (put s.fr t (.raw (.bool false))) o.dst (.raw Go.undef),s.h⟩)
  | .raw (.tuple _)=>hx P base w0 Q X nt n (.ops r::k) ⟨Zk s.fr o.dst (.raw Go.undef),s.h⟩
  | _=>False):=QdQ a
@[go_sem] theorem QFE{o:Oper}{t}{r}(a:Zt nt o.dst=true):hx P base w0 Q X nt (n+1) (.ops ((o,some (some t,false))::r)::k) s=(match get s.fr t with
  | .raw (.bool x)=>WW x (hz P base w0 Q X nt n (.ops r::k) ⟨Zk (put s.fr t (.raw (.bool true))) o.dst (.raw Go.undef),s.h⟩) (hz P base w0 Q X nt n (.ops ((o,none)::r)::k) ⟨put s.fr t (.raw (.bool false)),s.h⟩)
  | .raw (.tuple _)=>hx P base w0 Q X nt n (.ops r::k) ⟨Zk s.fr o.dst (.raw Go.undef),s.h⟩
  | _=>False):=by
 rw[QdQ a];generalize get s.fr t=d;cases d with
 | raw v=>
  cases v with
  | bool x=>cases x<;>simp[WW,Fs]
  | _=>rfl
 | _=>rfl
end
section
variable {P:Program}{base nt:Nat}{w0:Start}{Q:Exit->St->Prop}{k:List Item}{s:St}{I:Nat->St->Prop}{m:Nat}
@[go_sem] theorem QFF{e}:Qw P base nt w0 Q [] e s=Q e s:=Vk rfl
@[go_sem] theorem QFG{x}:Qw P base nt w0 Q (x::k) .ret s=Qw P base nt w0 Q k .ret s:=by cases x<;>rfl
@[go_sem] theorem QFH{c}{j}:Qw P base nt w0 Q (.code c::k) (.exit j) s=Qw P base nt w0 Q k (.exit j) s:=Vk rfl
@[go_sem] theorem QFI{l}{j}:Qw P base nt w0 Q (.ops l::k) (.exit j) s=Qw P base nt w0 Q k (.exit j) s:=Vk rfl
@[go_sem] theorem QFJ{a}:Qw P base nt w0 Q (.inBlock a::k) (.exit a) s=Qw P base nt w0 Q k .normal s:=by simp[Qw]
@[go_sem] theorem QFK{a j}(h:(j==a)=false):Qw P base nt w0 Q (.inBlock a::k) (.exit j) s=Qw P base nt w0 Q k (.exit j) s:=by
 have:¬ j=a:=by simpa using h
 simp[Qw,this]
@[go_sem] theorem QFL{a}:Qw P base nt w0 Q (.inBlock a::k) .normal s=Qw P base nt w0 Q k .normal s:=Vk rfl
@[go_sem] theorem QFM{j}:Qw P base nt w0 Q (.inScope::k) (.exit j) s=Qw P base nt w0 Q k (.exit j) s:=Vk rfl
@[go_sem] theorem QFN:Qw P base nt w0 Q (.inScope::k) .normal s=Qw P base nt w0 Q k .normal s:=Vk rfl
@[go_sem] theorem QFO:eh P base nt w0 Q k I m .normal s=∃b a,b<m/\QH w0 s a/\I b a:=Vk rfl
@[go_sem] theorem QFP{j}:eh P base nt w0 Q k I m (.exit j) s=Qw P base nt w0 Q k (.exit j) s:=Vk rfl
@[go_sem] theorem QFQ:eh P base nt w0 Q k I m .ret s=Qw P base nt w0 Q k .ret s:=Vk rfl
end
attribute [go_sem] Cq guardOf strip Qp get put Zk Zt YK Km yS Bf kj Fs
 cG cB cC cD cE GX GY cF oa IntKind.same Ls mk TK.agg N9 cH cI Oa cJ cK cM cO
 AZ Cd setRow SE SG DE cY Og yO Ch cZ vr dc dw Fp LC cat vu zJ nth D.there KB oE
 Jm YP Wl JU Ft one Bg D.shift yT Ob.shift km D.ko D.flat Hl D.upto Ct Hn Hp Cu Cs Oo Kd.Lm Kd.ty Kd.ro Kd.S3 Kd.toRo
attribute [go_sem] Jo List.map_nil List.getElem?_toArray List.getElem?_cons_zero List.getElem?_cons_succ List.getElem?_nil cr Option.bind_none KA qU VQ List.length_nil YG Yr Jv
 List.all_cons List.all_nil List.take_zero List.take_succ_cons List.take_nil List.drop_zero List.drop_succ_cons List.drop_nil List.set_cons_zero List.set_cons_succ List.getD_cons_zero List.getD_cons_succ List.replicate_zero bO List.flatten_cons List.flatten_nil
 wB js EU Lh Bool.and_true NL Bool.and_false Lg Bool.or_true Bool.true_or Bool.or_false R9 N5 decide_true decide_false AT and_true false_and and_false
 implies_true forall_const reduceCtorEq List.toList_toArray Int.toNat_natCast Dt Int.ofNat_lt Int.ofNat_le Int.ofNat_inj JM xG Qs Z9 Q4 Zh
def LZ{P}{a c}{b:Start}{Q}{X}(e:q6 P X)(d:a<=b.w.heap.size)(n){k}{s}(h:hx P a b Q X c n k s):Qw P a c b Q k .normal s:=vA e d n k s h
def QdR{P:Program}{X}(o:q6 P X){f}{d:Func}{c}(n)(m:P.funcs[f]? = some d)(g:d.body=some c){b:List D}{R}{e}{i}(p:d.ntmps=e)(q:d.results=i)(k:Nat.ble b.length e=true)
  (h:∀(a:Nat) (w:World),a<=w.heap.size->hx P a ⟨w,[],[]⟩ (Bg X.L i.toList R) X e n [.code c] ⟨km b 0,[]⟩):Q9 P f b R:=
 Qdk o n m g p (NY k) (by
  subst q;intro a w j g l;cases j with
  | nil=>exact h a w g
  | cons _ _=>simp at l)
def eY{P:Program}{X}(m:q6 P X){f}{d:Func}{c}(n)(l:P.funcs[f]? = some d)(i:d.body=some c){F}{b:List D}{R}{g}{j}(o:d.ntmps=g)(p:d.results=j)(k:Nat.ble b.length g=true)
  (h:∀(a:Nat) (w:World) (e:List Pl),a<=w.heap.size->hx P a ⟨w,F,e⟩ (Bg X.L j.toList R) X g n [.code c] ⟨km b 0,F⟩):QI P f F b R:=
 Qdk m n l i o (NY k) (by subst p;exact λa w e i _=>h a w e i)
def Zo.take{Z}{a}{h:List Ob}{c:List Pl}{w}(R:Zo Z a h c w)(k)(y:Cu k (h.take k)):Zo Z a (h.take k) (c.take k) w:=by
 have f:∀(l:Nat) (p:Pl),(c.take k)[l]? = some p->c[l]? = some p:=λl p e=>by
  rw[X7]at e;split at e
  .exact e
  .cases e
 have m:∀(l:Nat) (o:Ob),(h.take k)[l]? = some o->h[l]? = some o:=λl o e=>by
  rw[X7]at e;split at e
  .exact e
  .cases e
 refine⟨by simp[R.len],λl r b q n C B=>R.inj l r b q n (f _ _ C) (f _ _ B),λl o d g=>R.VX l o (m _ _ d) (f _ _ g),λl o b q d g=>?_⟩;obtain⟨z,x⟩:=R.at_ l o b q (m _ _ d) (f _ _ g);exact⟨z,x.to rfl rfl rfl rfl (λ_ _=>rfl) λi j v u t s=>s.take (Oq (pe y l o d i u) j t)⟩
def Kept(k:Nat)(R:D->List Ob->Prop)(d:D)(h:List Ob):Prop:=d.upto k=true/\Cu k (h.take k)/\R d (h.take k)
def Qpl{a:List Pl}{k b}(h:XH a b):XH (a.take k) b:=λl q e=>by
 rw[X7]at e;split at e
 .exact h l q e
 .cases e
def QI.take{P}{f}{F:List Ob}{a}{R}(k)(t:F.length<=k)(h:QI P f F a (Kept k R)):QI P f F a R:=λZ b w g e C B z c x=>
 (h Z b w g e C B z c x).mono λ_ _ ⟨v,d,u,J,q,⟨I,H,E⟩,n,m,j,i⟩=>⟨v,d,u.take k,J.take k,q,E,n.take k H,m.take I,
  j.keep t ⟨λ_ y=>Qpl y,λl o p c s r=>⟨o,by rw[X7,Qf c];exact s,by rw[X7,Qf c];exact r,rfl,rfl,rfl⟩⟩,i⟩
def QdS(k){P:Program}{X}(m:q6 P X){f}{d:Func}{c}(n)(j:P.funcs[f]? = some d)(l:d.body=some c){a:List D}{R}{e}{g}(o:d.ntmps=e)(p:d.results=g)(i:Nat.ble a.length e=true)
  (h:∀(b:Nat) (w:World),b<=w.heap.size->hx P b ⟨w,[],[]⟩ (Bg X.L g.toList (Kept k R)) X e n [.code c] ⟨km a 0,[]⟩):Q9 P f a R:=
 QI.take k (Z9 _) (QdR m n j l o p i h)
def QdT(k:Nat){P:Program}{X:Cx}(p:q6 P X){f:FuncId}{d:Func}{c:Code}(n:Nat)(m:P.funcs[f]? = some d)(o:d.body=some c){F:List Ob}(l:Nat.ble F.length k=true){a:List D}{R:D->List Ob->Prop}{e:Nat}{g:Array ResultVar}(q:d.ntmps=e)(r:d.results=g)(j:Nat.ble a.length e=true)
  (h:∀(b:Nat) (w:World) (i:List Pl),b<=w.heap.size->hx P b ⟨w,F,i⟩ (Bg X.L g.toList (Kept k R)) X e n [.code c] ⟨km a 0,F⟩):QI P f F a R:=
 QI.take k (NY l) (eY p n m o q r j h)
attribute [go_sem] Kept
def QdU{k}:∀{h c:List Ob},Cs h c->Cu k c->Cu k h
 | [],[],_,_=>trivial
 | [],_::_,h,_=>h.elim
 | _::_,[],h,_=>h.elim
 | _::_,_::_,h,b=>⟨λi a=>by rw[<- h.1.2.2.2.2 i a];exact b.1 i (by rw[h.1.2.2.1];exact a),QdU h.2 b.2⟩
def Wk.to{m}(k){d a}{h c:List Ob}(b:Hn d a/\Hp k a=true/\Cu k c/\Cs (h.take k) c)(e:m<=k:=by exact NY rfl):Wk m ⟨d,h⟩ ⟨a,c⟩:=
 Wk.trans (Wk.frame b.1) (Wk.trans (Wk.drop k e b.2.1 (QdU b.2.2.2 b.2.2.1)) (Wk.Ho b.2.2.2))
def QH.to{c:Start}(k){d a}{h b:List Ob}(e:Hn d a/\Hp k a=true/\Cu k b/\Cs (h.take k) b)(f:c.F.length<=k:=by exact NY rfl):QH c ⟨d,h⟩ ⟨a,b⟩:=(Wk.to k e f).up
def QH.frame{b}{a fr'}{h}(c:Hn a fr'):QH b ⟨a,h⟩ ⟨fr',h⟩:=(Wk.frame c).up
def QH.Dx{d}{b}{h:List Ob}(t c)(a)(e:get b t=.nil):QH d ⟨b,h⟩ ⟨put b t (.ref h.length 0 0 0),h++[⟨.arr,0,c,0,a⟩]⟩:=(Wk.Dx t c a e).up
def Qpm{a:Type}[Inhabited a](c:Nat)(b:a->List D)(l:List a)(d:D)(h:List Ob):Prop:=∃g,d=.ref 0 g 0 l.length/\h=[⟨.arr,g,c,l.length,λi=>b (l.getD i default)⟩]
def OH(P:Program)(a:Nat)(b:Start)(Q:Exit->St->Prop)(X:Cx)(c n:Nat)(k:List Item)(s:St):Prop:=hx P a b Q X c n k s
def Vc(P:Program)(a:Nat)(b:Start)(X:Cx)(c:Nat)(K:St->Prop)(l:List (Bool × Oper × G))(s:St):Prop:=Bk P a b X c K l s
def zP(P:Program)(a:Nat)(b:Start)(X:Cx)(c:Nat)(K:St->Prop)(l:List (Bool × Oper × G))(s:St):Prop:=Vc P a b X c K l s
section
variable {nc:List Nat}{P:Program}{base:Nat}{w0:Start}{Q:Exit->St->Prop}{X:Cx}{nt n:Nat}{k:List Item}{s:St}{l:List (Bool × Oper × G)}{K:St->Prop}
@[go_sem ↓] theorem QFR{B}:WW true (zP P base w0 X nt K l s) B=Vc P base w0 X nt K l s:=by simp[WW,zP]
@[go_sem ↓] theorem QFS{A}:WW false A (zP P base w0 X nt K l s)=Vc P base w0 X nt K l s:=by simp[WW,zP]
def FC{b}{c}{a}(e:b=true->Vc P base w0 X nt K l s)(d:b=false->Vc P base w0 X nt K c a):WW b (zP P base w0 X nt K l s) (zP P base w0 X nt K c a):=⟨e,d⟩
@[go_sem] theorem QFT:Vc P base w0 X nt K [] s=K s:=Vk rfl
@[go_sem] theorem QFU:OH P base w0 Q X nt n k s=hx P base w0 Q X nt n k s:=Vk rfl
@[go_sem] theorem QFV{o:Oper}{r}:Vc P base w0 X nt K ((true,o,none)::r) s=(match yS X s o.op with
  | some (p,d)=>p/\(match Zt nt o.dst with|true=>Vc P base w0 X nt K r ⟨Zk s.fr o.dst d,s.h⟩|false=>False)
  | none=>False):=by
 simp only[Vc,Bk,LY];generalize yS X s o.op=a;cases a with
 | some b=>cases Zt nt o.dst<;>simp
 | none=>rfl
@[go_sem] theorem QFW{o:Oper}{r}:Vc P base w0 X nt K ((false,o,none)::r) s=(match yS X s o.op with
  | some (p,d)=>p/\(match Zt nt o.dst with|true=>Vc P base w0 X nt K r ⟨Zk s.fr o.dst d,s.h⟩|false=>False)
  | none=>match Bf X s o.op with
   | some (p,h,d)=>p/\(match Zt nt o.dst with|true=>Vc P base w0 X nt K r ⟨Zk s.fr o.dst d,h⟩|false=>False)
   | none=>AX P base nt w0 K ((false,o,none)::r) s):=by
 simp only[Vc,Bk,LY];generalize yS X s o.op=b;generalize Bf X s o.op=a;cases b with
 | some e=>cases Zt nt o.dst<;>simp
 | none=>cases a with
  | some c=>cases Zt nt o.dst<;>simp
  | none=>rfl
def QdV{a}{o:Oper}{t}{b}{r}(c:Zt nt o.dst=true):Vc P base w0 X nt K ((a,o,some (some t,b))::r) s=(match get s.fr t with
  | .raw (.bool x)=>WW (Fs b x) (zP P base w0 X nt K ((a,o,none)::r) ⟨put s.fr t (.raw (.bool b)),s.h⟩) (zP P base w0 X nt K r ⟨Zk (put s.fr t (.raw (.bool (!b)))) o.dst (.raw Go.undef),s.h⟩)
  | .raw (.tuple _)=>Vc P base w0 X nt K r ⟨Zk s.fr o.dst (.raw Go.undef),s.h⟩
  | _=>False):=by
 simp only[Vc,zP,Bk];generalize get s.fr t=d;cases d with
 | raw v=>
  cases v with
  | bool x=>simp[WW,c]
  | tuple e=>simp[c]
  | _=>rfl
 | _=>rfl
@[go_sem] theorem QFX{a}{o:Oper}{t}{r}(b:Zt nt o.dst=true):Vc P base w0 X nt K ((a,o,some (some t,true))::r) s=(match get s.fr t with
  | .raw (.bool x)=>WW x (zP P base w0 X nt K ((a,o,none)::r) ⟨put s.fr t (.raw (.bool true)),s.h⟩) (zP P base w0 X nt K r ⟨Zk (put s.fr t (.raw (.bool false))) o.dst (.raw Go.undef),s.h⟩)
  | .raw (.tuple _)=>Vc P base w0 X nt K r ⟨Zk s.fr o.dst (.raw Go.undef),s.h⟩
  | _=>False):=QdV b
@[go_sem] theorem QFY{a}{o:Oper}{t}{r}(b:Zt nt o.dst=true):Vc P base w0 X nt K ((a,o,some (some t,false))::r) s=(match get s.fr t with
  | .raw (.bool x)=>WW x (zP P base w0 X nt K r ⟨Zk (put s.fr t (.raw (.bool true))) o.dst (.raw Go.undef),s.h⟩) (zP P base w0 X nt K ((a,o,none)::r) ⟨put s.fr t (.raw (.bool false)),s.h⟩)
  | .raw (.tuple _)=>Vc P base w0 X nt K r ⟨Zk s.fr o.dst (.raw Go.undef),s.h⟩
  | _=>False):=by
 rw[QdV b];generalize get s.fr t=d;cases d with
 | raw v=>
  cases v with
  | bool x=>cases x<;>simp[WW,Fs]
  | _=>rfl
 | _=>rfl
def Qpn{d}{a}(c:q6 P X)(b:base<=w0.w.heap.size)(n)(f:P.follows .mixedOrders=true)(l)(i:eV X.L a l=true)(g:Cy a s.fr=true)(h:Vc P base w0 X nt (OH P base w0 Q X nt n k) (Vj [] a l) s):Qw P base nt w0 Q (.code (.region d a true)::k) .normal s:=
 Qpe c.L b f l i g (AX.mono (λs e=>LZ c b n e) _ _ (FB c b _ _ h))
def Qpo(b:q6 P X)(a:base<=w0.w.heap.size)(h:Vc P base w0 X nt K l s):AX P base nt w0 K l s:=FB b a _ _ h
abbrev L6:=Nat × Oper × G × List Nat
def L7:List Edge->List Nat
 | []=>[]
 | e::r=>bif Region.binds .any e then e.on::L7 r else L7 r
def ku(nc:List Nat)(a:Array Oper):List Nat->List L6
 | []=>[]
 | i::r=>match a[i]? with
  | some o=>(i,qt (Vb i nc) o,guardOf a o,L7 o.after.toList)::ku nc a r
  | none=>ku nc a r
def DQ(i:Nat):List L6->List L6
 | []=>[]
 | e::r=>bif Nat.beq e.1 i then DQ i r else e::DQ i r
def OI(done:List Nat):List Nat->Bool
 | []=>true
 | i::r=>Vb i done&&OI done r
def Ti(F:L6->Prop):List L6->Prop
 | []=>True
 | e::r=>F e/\Ti F r
def FD(P:Program)(base:Nat)(w0:Start)(X:Cx)(nt:Nat)(K:St->Prop):Nat->List L6->List Nat->St->Prop
 | 0,_,_,s=>K s
 | m+1,a,done,s=>Ti (λe=>match OI done e.2.2.2 with
  | true=>Vc P base w0 X nt (FD P base w0 X nt K m (DQ e.1 a) (e.1::done)) [(false,e.2.1,e.2.2.1)] s
  | false=>True) a
def pG{done}:∀{l:List Edge},vC done l=false->OI done (L7 l)=true
 | [],_=>rfl
 | e::r,h=>by
  simp only[vC,Ds,Lf,Bool.not_eq_false']at h;simp only[L7];cases a:Region.binds .any e
  .exact pG h.2
  .simp only[wB,OI,ZX];refine⟨h.1.resolve_left (by rw[a];simp),pG h.2⟩
def QdW{F}:∀{l:List L6},Ti F l->∀e∈l,F e
 | [],_,e,he=>by cases he
 | x::r,h,e,he=>by
  rcases QG.1 he with rfl|he
  .exact h.1
  .exact QdW h.2 e he
def pH{a:Array Oper}{i}{o:Oper}(b:a[i]? = some o):∀{R:List Nat},i∈R->(i,qt (Vb i nc) o,guardOf a o,L7 o.after.toList)∈ku nc a R
 | [],h=>by cases h
 | j::r,h=>by
  simp only[ku];rcases QG.1 h with rfl|h
  .rw[b];exact Z3 ..
  .split
   .exact Jw _ (pH b h)
   .exact pH b h
def eZ{a}{i}:∀{R:List Nat},i ∉ R->DQ i (ku nc a R)=ku nc a R
 | [],_=>rfl
 | j::r,h=>by
  simp only[QG,qV]at h;simp only[ku];split
  .simp only[DQ];have:Nat.beq j i=false:=by rw[<- qk,WG];exact λe=>h.1 e.symm
   rw[this,js,eZ h.2]
  .exact eZ h.2
def pI{a}{i}:∀{R:List Nat},R.Nodup->DQ i (ku nc a R)=ku nc a (R.erase i)
 | [],_=>rfl
 | j::r,h=>by
  obtain⟨d,c⟩:=Z8.1 h;by_cases b:j=i
  .subst b;rw[List.erase_cons_head];simp only[ku];split
   .simp only[DQ,NU,wB];exact eZ d
   .exact eZ d
  .rw[List.erase_cons_tail (by simpa using b)];have e:Nat.beq j i=false:=by rw[<- qk,WG];exact b
   simp only[ku];cases f:a[j]? with
   | some o=>simp only[DQ,e,js,pI c]
   | none=>simp only[pI c]
def pJ(d:q6 P X)(c:base<=w0.w.heap.size){a}{g}(e:∀s,K s->g s):∀(m:Nat) (R done:List Nat) (s:St),R.Nodup->FD P base w0 X nt K m (ku nc a R) done s->Fz nc P base nt w0 a g m R done s
 | 0,_,_,s,_,h=>e s h
 | m+1,R,done,s,b,h=>by
  intro i q o p r;have f:=QdW h _ (pH p q);simp only[pG r]at f;refine AX.mono (λs j=>pJ d c e m (R.erase i) (i::done) s (b.erase _) ?_) _ _ (FB d c _ _ f);rw[<- pI b];exact j
def QdX(nc){f}{a}(c:q6 P X)(b:base<=w0.w.heap.size)(n)(g:P.follows .mixedOrders=true)(l)(R)(e:DP nc X.L a l R=true)(i:Cy a s.fr=true)
  (h:Vc P base w0 X nt (FD P base w0 X nt (OH P base w0 Q X nt n k) R.length (ku nc a R) (l.map (·.1))) (Vj nc a l) s):Qw P base nt w0 Q (.code (.region f a true)::k) .normal s:=by
 have j:R.Nodup:=by
  simp only[DP,ZX]at e;exact(eU e.1.2).1
 exact QdN c.L b g l R e i (AX.mono (λs d=>pJ c b (λs d=>LZ c b n d) _ _ _ s j d) _ _ (FB c b _ _ h))
def QFZ{b}{a}(e:q6 P X)(d:base<=w0.w.heap.size)(n)(c:P.follows .mixedOrders=true)(l)(R)(g:DP [] X.L a l R=true)(f:Cy a s.fr=true)
  (h:Vc P base w0 X nt (FD P base w0 X nt (OH P base w0 Q X nt n k) R.length (ku [] a R) (l.map (·.1))) (Vj [] a l) s):Qw P base nt w0 Q (.code (.region b a true)::k) .normal s:=QdX [] e d n c l R g f h
@[go_sem] theorem QF0{i}:Region.binds .any ⟨i,.data⟩=true:=rfl
@[go_sem] theorem QF1{i}:Region.binds .any ⟨i,.chain⟩=true:=rfl
@[go_sem] theorem QF2{i}:Region.binds .any ⟨i,.guard⟩=true:=rfl
@[go_sem] theorem QF3{i}:Region.binds .any ⟨i,.phase⟩=true:=rfl
@[go_sem] theorem QF4{i}{d}:Region.binds .any ⟨i,.textOnly d⟩=false:=rfl
@[go_sem] theorem QF5{i}{d}:Region.binds .any ⟨i,.gcOnly d⟩=false:=rfl
@[go_sem] theorem QF6{a}{d}:FD P base w0 X nt K 0 a d s=K s:=Vk rfl
@[go_sem] theorem QF7{m}{a}{d}:FD P base w0 X nt K (m+1) a d s=Ti (λe=>match OI d e.2.2.2 with
  | true=>Vc P base w0 X nt (FD P base w0 X nt K m (DQ e.1 a) (e.1::d)) [(false,e.2.1,e.2.2.1)] s
  | false=>True) a:=Vk rfl
end
def Tj(P:Program)(a d:Nat)(b:Start)(Q:Exit->St->Prop)(k:List Item)(S:Nat->St->Prop)(N i:Nat):Exit->St->Prop
 | .normal,s=>i<N/\∃c,QH b s c/\S (i+1) c
 | e,s=>Qw P a d b Q k e s
section
variable {P:Program}{base nt:Nat}{w0:Start}{Q:Exit->St->Prop}{k:List Item}{s:St}
@[go_sem] theorem QF8{S}{N i}:Tj P base nt w0 Q k S N i .normal s=(i<N/\∃a,QH w0 s a/\S (i+1) a):=Vk rfl
@[go_sem] theorem QF9{S}{N i j}:Tj P base nt w0 Q k S N i (.exit j) s=Qw P base nt w0 Q k (.exit j) s:=Vk rfl
@[go_sem] theorem QGa{S}{N i}:Tj P base nt w0 Q k S N i .ret s=Qw P base nt w0 Q k .ret s:=Vk rfl
def Js{c}(S)(N){s0}(d:QH w0 s s0)(j:S 0 s0)(a:∀i s,i<=N->S i s->Qw P base nt w0 (Tj P base nt w0 Q k S N i) [.code c] .normal s):Qw P base nt w0 Q (.code (.loop c)::k) .normal s:=by
 refine Ot (λm s=>∃i,i+m=N/\S i s) N d ⟨0,ω,j⟩ ?_;rintro m s ⟨i,o,f⟩;have:=a i s ω f;simp only[Qw]at this ⊢;refine this.mono λe n b=>?_;cases e with
 | normal=>obtain⟨p,l,h,g⟩:=b;exact⟨m - 1,l,ω,h,i+1,ω,g⟩
 | _=>exact b
end
def Tl{P}{a c}{b}{Q}{l}{k}{s s'}(h:QH b s s')(d:Qw P a c b Q (.ops l::k) .normal s'):Qw P a c b Q (.ops l::k) .normal s:=by
 simp only[Qw]at d ⊢;exact d.YQ h
attribute [go_sem] qt ku L7 DQ OI Vb Ti Vj KQ false_implies imp_self ne_eq not_false_eq_true not_true_eq_false Nat.one_ne_zero
@[go_sem] theorem QGb(v):D.VI (.raw v)=AZ v:=rfl
@[go_sem] theorem QGc  : D.VI (.nil)=true:=rfl
@[go_sem] theorem QGd  : D.VI (.undef)=false:=rfl
@[go_sem] theorem QGe(z n)(r):D.VI (.imm z n r)=true:=rfl
@[go_sem] theorem QGf(c):D.VI (.ip c)=true:=rfl
@[go_sem] theorem QGg(l g o n):D.VI (.ref l g o n)=true:=rfl
@[go_sem] theorem QGh(l g i j):D.VI (.ptr l g i j)=true:=rfl
@[go_sem] theorem QGi(l g):D.VI (.mref l g)=true:=rfl
@[go_sem] theorem QGj(f)(n)(c):D.VI (.clo f n c)=true:=rfl
@[go_sem] theorem QGk(c):D.VI (.agg c)=false:=rfl
@[go_sem] theorem QGl(c):D.VI (.tup c)=false:=rfl
@[go_sem] theorem QGm(v):Yu (.raw v)=bif D.VI (.raw v) then some [.raw v] else none:=rfl
@[go_sem] theorem QGn  : Yu (.nil)=bif D.VI (.nil) then some [.nil] else none:=rfl
@[go_sem] theorem QGo  : Yu (.undef)=bif D.VI (.undef) then some [.undef] else none:=rfl
@[go_sem] theorem QGp(z n)(r):Yu (.imm z n r)=bif D.VI (.imm z n r) then some [.imm z n r] else none:=rfl
@[go_sem] theorem QGq(c):Yu (.ip c)=bif D.VI (.ip c) then some [.ip c] else none:=rfl
@[go_sem] theorem QGr(l g o n):Yu (.ref l g o n)=bif D.VI (.ref l g o n) then some [.ref l g o n] else none:=rfl
@[go_sem] theorem QGs(l g i j):Yu (.ptr l g i j)=bif D.VI (.ptr l g i j) then some [.ptr l g i j] else none:=rfl
@[go_sem] theorem QGt(l g):Yu (.mref l g)=bif D.VI (.mref l g) then some [.mref l g] else none:=rfl
@[go_sem] theorem QGu(f)(n)(c):Yu (.clo f n c)=bif D.VI (.clo f n c) then some [.clo f n c] else none:=rfl
@[go_sem] theorem QGv(c:List D):Yu (.agg c)=bif c.all D.VI then some c else none:=rfl
@[go_sem] theorem QGw(c):Yu (.tup c)=bif D.VI (.tup c) then some [.tup c] else none:=rfl
@[go_sem] theorem QGx(a)(v):Ye a (.raw v)=(a=.raw v):=rfl
@[go_sem] theorem QGy(a)  : Ye a (.nil)=(a=.nil):=rfl
@[go_sem] theorem QGz(a)  : Ye a (.undef)=(a=.undef):=rfl
@[go_sem] theorem QGA(a c z n)(b r):Ye (.imm a c b) (.imm z n r)=(a=z/\c=n/\∀i,i<n->b i=r i):=rfl
@[go_sem] theorem QGB(a)(c):Ye a (.ip c)=(a=.ip c):=rfl
@[go_sem] theorem QGC(a)(l g o n):Ye a (.ref l g o n)=(a=.ref l g o n):=rfl
@[go_sem] theorem QGD(a)(l g i j):Ye a (.ptr l g i j)=(a=.ptr l g i j):=rfl
@[go_sem] theorem QGE(a)(l g):Ye a (.mref l g)=(a=.mref l g):=rfl
@[go_sem] theorem QGF(a)(f)(n)(c):Ye a (.clo f n c)=(a=.clo f n c):=rfl
@[go_sem] theorem QGG(a)(c):Ye a (.agg c)=(a=.agg c):=rfl
@[go_sem] theorem QGH(a)(c):Ye a (.tup c)=(a=.tup c):=rfl
end Go.Fg
namespace Go.Fg
open Go.RowKit (Below)
def pos(l:Nat):List Nat->Nat
 | []=>0
 | k::r=>bif Nat.beq k l then 0 else pos l r+1
mutual
def D.Yf(a:List Nat):D->D
 | .ref l g c e=>.ref (pos l a) g c e
 | .ptr l g i j=>.ptr (pos l a) g i j
 | .mref l g=>.mref (pos l a) g
 | .clo f h b=>.clo f h (wP a b)
 | .agg b=>.agg (wP a b)
 | .tup b=>.tup (wP a b)
 | d=>d
def wP(a:List Nat):List D->List D
 | []=>[]
 | c::b=>c.Yf a::wP a b
end
mutual
def D.CA(a:List Nat):D->Bool
 | .ref l _ _ _=>Vb l a
 | .ptr l _ _ _=>Vb l a
 | .mref l _=>Vb l a
 | .clo _ _ b=>CC a b
 | .agg b=>CC a b
 | .tup b=>CC a b
 | _=>true
def CC(a:List Nat):List D->Bool
 | []=>true
 | c::b=>c.CA a&&CC a b
end
def Ma{l}:∀{Qo:List Nat},Vb l Qo=true->Qo[pos l Qo]? = some l
 | [],h=>by cases h
 | k::r,h=>by
  simp only[pos];by_cases e:k=l
  .subst e;simp
  .have b:Nat.beq k l=false:=by rw[<- qk,WG];exact e
   have a:Nat.beq l k=false:=by rw[<- qk,WG];exact λx=>e x.symm
   simp only[Vb,a,R9]at h;simp[b,Ma h]
def vE(b):∀a:List D,(wP b a).length=a.length
 | []=>rfl
 | _::a=>by simp[wP,vE b a]
def FE(b):∀(a:List D) (i:Nat),i<a.length->nth (wP b a) i=(nth a i).Yf b
 | [],i,h=>by simp at h
 | c::a,0,_=>by simp[wP,nth]
 | c::a,i+1,h=>by
  have:=FE b a i (by simpa using h);simpa[wP,nth] using this
def OJ{c}:∀{b:List D},CC c b=true->∀i,i<b.length->(nth b i).CA c=true
 | [],_,i,h=>by simp at h
 | d::r,a,i,h=>by
  simp only[CC,ZX]at a;cases i with
  | zero=>exact a.1
  | succ i=>have:=OJ a.2 i (by simpa using h);simpa[nth] using this
def Ob.Yf(a:List Nat)(o:Ob):Ob:=⟨o.kd,o.gen,o.sz,o.n,λi=>wP a (o.row i)⟩
def qv(h:List Ob):List Nat->List Ob
 | []=>[]
 | i::r=>match h[i]? with
  | some o=>o::qv h r
  | none=>[]
def vF(a:List Pl):List Nat->List Pl
 | []=>[]
 | i::r=>match a[i]? with
  | some o=>o::vF a r
  | none=>[]
def WX(n:Nat):List Nat->Bool
 | []=>true
 | i::r=>Nat.blt i n&&WX n r
def CD:List Nat->Bool
 | []=>true
 | i::r=>!Vb i r&&CD r
def QdY{n}:∀{l:List Nat},WX n l=true->∀i∈l,i<n
 | [],_,i,h=>by cases h
 | k::r,h,i,a=>by
  simp only[WX,ZX,xH]at h;rcases QG.1 a with e|e
  .subst e;exact h.1
  .exact QdY h.2 i e
def QdZ:∀{l:List Nat},CD l=true->∀(i j x:Nat),l[i]? = some x->l[j]? = some x->i=j
 | [],_,i,j,x,h,_=>by simp at h
 | k::r,h,i,j,x,b,a=>by
  simp only[CD,ZX,jl]at h;have c:k ∉ r:=λd=>by rw[xQ.2 d]at h;cases h.1
  cases i with
  | zero=>
   simp at b;subst b;cases j with
   | zero=>rfl
   | succ j=>simp at a;exact absurd (NR a) c
  | succ i=>
   simp at b;cases j with
   | zero=>simp at a;subst a;exact absurd (NR b) c
   | succ j=>simp at a;rw[QdZ h.2 i j x b a]
def Mb{h:List Ob}:∀{Qo:List Nat},WX h.length Qo=true->∀(i l:Nat),Qo[i]? = some l->(qv h Qo)[i]? = h[l]?
 | [],_,i,l,e=>by simp at e
 | k::r,a,i,l,e=>by
  simp only[WX,ZX,xH]at a;simp only[qv,QT a.1];cases i with
  | zero=>simp at e;subst e;simp[QT a.1]
  | succ i=>simp at e;simpa using Mb a.2 i l e
def CE{h:List Pl}:∀{Qo:List Nat},WX h.length Qo=true->∀(i l:Nat),Qo[i]? = some l->(vF h Qo)[i]? = h[l]?
 | [],_,i,l,e=>by simp at e
 | k::r,a,i,l,e=>by
  simp only[WX,ZX,xH]at a;simp only[vF,QT a.1];cases i with
  | zero=>simp at e;subst e;simp[QT a.1]
  | succ i=>simp at e;simpa using CE a.2 i l e
def fa{h:List Ob}:∀{Qo:List Nat},WX h.length Qo=true->(qv h Qo).length=Qo.length
 | [],_=>rfl
 | k::r,a=>by
  simp only[WX,ZX,xH]at a;simp[qv,QT a.1,fa a.2]
def OK{h:List Pl}:∀{Qo:List Nat},WX h.length Qo=true->(vF h Qo).length=Qo.length
 | [],_=>rfl
 | k::r,a=>by
  simp only[WX,ZX,xH]at a;simp[vF,QT a.1,OK a.2]
def QF.Qo{Z O}{h:List Ob}{u:List Pl}{w}{k}(Y:∀b,free Z u b->O b)(s:u.length=h.length)(H:WX h.length k=true){d:D}{v}(r:QF Z h u w d v)(F:d.CA k=true):
  QF O ((qv h k).map (Ob.Yf k)) (vF u k) w (d.Yf k) v:=by
 have J:WX u.length k=true:=by rw[s];exact H
 have W:∀b,free Z u b->free O (vF u k) b:=λb T=>⟨Y b T,λl q e=>by
  have Qc:l<k.length:=by rw[<- OK J];exact WR e
  rw[CE J l (k[l]) (QT Qc)]at e;exact T.2 _ q e⟩
 have Z1:∀(d:D) (v:Value),Cl (free Z u) w d v->QF O ((qv h k).map (Ob.Yf k)) (vF u k) w (d.Yf k) v:=by
  intro d v z;have U:=z.mono (N':=free O (vF u k)) (w':=w) (λb H _=>⟨W b H,rfl⟩);clear z;induction U with
  | raw v=>exact .cl _ _ (.raw v)
  | undef v=>exact .cl _ _ (.undef v)
  | nil a=>exact .cl _ _ (.nil a)
  | imm V n Q a C b o m ha s B z x t=>exact .cl _ _ (.imm V n Q a C b o m ha s B z x)
  | ip E b o m z x t=>exact .cl _ _ (.ip E b o m z x)
  | clo f P N m s x t=>exact .clo f P _ m (by rw[vE];exact s) (λi c=>by rw[vE]at c;rw[FE _ _ _ c];exact t i c)
  | agg N m s x t=>exact .agg _ m (by rw[vE];exact s) (λi c=>by rw[vE]at c;rw[FE _ _ _ c];exact t i c)
  | tup N m s x t=>exact .tup _ m (by rw[vE];exact s) (λi c=>by rw[vE]at c;rw[FE _ _ _ c];exact t i c)
 induction r with
 | cl d v z=>exact Z1 d v z
 | ref l g R S o p a C L K I M B=>
  have y:Vb l k=true:=by simpa[D.CA] using F
  exact .ref _ g R S (o.Yf k) p a C (by rw[KX,Mb H _ l (Ma y),L];rfl) (by rw[CE J _ l (Ma y),K]) I M B
 | ptr l g i j o p a L K I M B=>
  have y:Vb l k=true:=by simpa[D.CA] using F
  exact .ptr _ g i j (o.Yf k) p a (by rw[KX,Mb H _ l (Ma y),L];rfl) (by rw[CE J _ l (Ma y),K]) I M B
 | mref l g o p b L K I M B=>
  have y:Vb l k=true:=by simpa[D.CA] using F
  exact .mref _ g (o.Yf k) p b (by rw[KX,Mb H _ l (Ma y),L];rfl) (by rw[CE J _ l (Ma y),K]) I M B
 | clo f P N m s x t=>exact .clo f P _ m (by rw[vE];exact s) λi c=>by rw[vE]at c;rw[FE _ _ _ c];exact t i c (OJ (by simpa[D.CA] using F) i c)
 | agg N m s x t=>exact .agg _ m (by rw[vE];exact s) λi c=>by rw[vE]at c;rw[FE _ _ _ c];exact t i c (OJ (by simpa[D.CA] using F) i c)
 | tup N m s x t=>exact .tup _ m (by rw[vE];exact s) λi c=>by rw[vE]at c;rw[FE _ _ _ c];exact t i c (OJ (by simpa[D.CA] using F) i c)
def Mc(a:List Nat):List Ob->Prop
 | []=>True
 | o::r=>(∀i,i<o.n->CC a (o.row i)=true)/\Mc a r
def Qd0{a}:∀{h:List Ob},Mc a h->∀(l:Nat) (o:Ob),h[l]? = some o->∀i,i<o.n->CC a (o.row i)=true
 | [],_,l,o,e=>by simp at e
 | o::r,h,l,u,e=>by
  cases l with
  | zero=>simp at e;subst e;exact h.1
  | succ l=>simp at e;exact Qd0 h.2 l u e
def Zo.Qo{Z F}{c}{h:List Ob}{g}{w}{a}(R:Zo Z c h g w)(L:∀b,free Z g b->F b)(r:WX h.length a=true)(O:CD a=true)(P:Mc a (qv h a)):
  Zo F c ((qv h a).map (Ob.Yf a)) (vF g a) w:=by
 have t:WX g.length a=true:=by rw[R.len];exact r
 have s:∀(i:Nat) (p:Pl),(vF g a)[i]? = some p->∃l,a[i]? = some l/\g[l]? = some p:=λi p e=>by
  have Qc:i<a.length:=by rw[<- OK t];exact WR e
  exact⟨a[i],QT Qc,by rw[<- CE t i _ (QT Qc)];exact e⟩
 have E:∀(i:Nat) (o:Ob),((qv h a).map (Ob.Yf a))[i]? = some o->∃l u,a[i]? = some l/\h[l]? = some u/\o=u.Yf a/\(qv h a)[i]? = some u:=λi o e=>by
  rw[KX,WH]at e;obtain⟨u,f,rfl⟩:=e;have Qc:i<a.length:=by rw[<- fa r];exact KY f
  exact⟨a[i],u,QT Qc,by rw[<- Mb r i _ (QT Qc)];exact f,rfl,f⟩
 refine⟨by rw[OK t,KK,fa r],λi K b q I T S=>?_,λi o B z=>?_,λi o b q B z=>?_⟩
 .obtain⟨l,m,J⟩:=s _ _ T;obtain⟨y,d,n⟩:=s _ _ S;have:=R.inj l y b q I J n;subst this;exact QdZ O i K l m d
 .obtain⟨l,u,m,f,rfl,_⟩:=E _ _ B;obtain⟨y,d,n⟩:=s _ _ z;rw[m]at d;cases d;exact R.VX l u f n
 .obtain⟨l,u,m,f,rfl,H⟩:=E _ _ B;obtain⟨y,d,n⟩:=s _ _ z;rw[m]at d;cases d;obtain⟨Q,x⟩:=R.at_ l u b q f n;refine⟨Q,x.to rfl rfl rfl rfl (λk _=>vE _ _) λk j v N C M=>?_⟩;show QF _ _ _ _ (nth (wP a (u.row k)) j) v;rw[FE _ _ _ C];exact M.Qo L R.len r (OJ (Qd0 P i u H k N) j C)
def Qd1{c:List Pl}{a}(d:WX c.length a=true){b}(h:XH c b):XH (vF c a) b:=λl q e=>by
 have Qc:l<a.length:=by rw[<- OK d];exact WR e
 rw[CE d l (a[l]) (QT Qc)]at e;exact h _ q e
def Qd2(a:List Nat)(R:D->List Ob->Prop)(d:D)(h:List Ob):Prop:=d.CA a=true/\WX h.length a=true/\Mc a (qv h a)/\R (d.Yf a) ((qv h a).map (Ob.Yf a))
def Tm:Nat->Nat->List Nat->Bool
 | 0,_,_=>true
 | _+1,_,[]=>false
 | m+1,i,k::r=>Nat.beq k i&&Tm m (i+1) r
def Qd3:∀{m i:Nat} {Qo:List Nat},Tm m i Qo=true->∀l,l<m->Qo[l]? = some (i+l)
 | 0,_,_,_,l,a=>ω
 | m+1,i,[],h,_,_=>by cases h
 | m+1,i,k::r,h,l,a=>by
  simp only[Tm,ZX]at h;obtain rfl:=Sq h.1;cases l with
  | zero=>simp
  | succ l=>rw[List.getElem?_cons_succ,Qd3 h.2 l ω];congr 1;omega
def QI.Qo{P}{f}{F:List Ob}{a}{R}(b)(y:CD b=true)(t:Tm F.length 0 b=true)(h:QI P f F a (Qd2 b R)):QI P f F a R:=λZ g w m k H E C j z=>
 (h Z g w m k H E C j z).mono λ_ _ ⟨v,d,M,L,s,⟨K,c,J,I⟩,i,r,q,n⟩=>⟨v,d.Yf b,_,vF L b,s,I,i.Qo (λ_ h=>h.1) c y J,r.Qo (λ_ h=>h.1) i.len c K,
  q.keep (Qs _) ⟨λ_ B=>Qd1 (by rw[i.len];exact c) B,λl o p j x u=>by
   have e:=Qd3 t l j;rw[JM]at e;exact⟨o.Yf b,by rw[KX,Mb c l l e,x];rfl,by rw[CE (by rw[i.len];exact c) l l e,u],rfl,rfl,rfl⟩⟩,n⟩
attribute [go_sem] Qd2 pos D.Yf wP D.CA CC Ob.Yf qv WX Mc Vb
mutual
def D.idx(a:Nat->Nat):D->D
 | .ref l g c e=>.ref (a l) g c e
 | .ptr l g i j=>.ptr (a l) g i j
 | .mref l g=>.mref (a l) g
 | .clo f h b=>.clo f h (Bl a b)
 | .agg b=>.agg (Bl a b)
 | .tup b=>.tup (Bl a b)
 | d=>d
def Bl(a:Nat->Nat):List D->List D
 | []=>[]
 | c::b=>c.idx a::Bl a b
end
def xU(b):∀a:List D,(Bl b a).length=a.length
 | []=>rfl
 | _::a=>by simp[Bl,xU b a]
def Hr(b):∀(a:List D) (i:Nat),i<a.length->nth (Bl b a) i=(nth a i).idx b
 | [],i,h=>by simp at h
 | c::a,0,_=>by simp[Bl,nth]
 | c::a,i+1,h=>by
  have:=Hr b a i (by simpa using h);simpa[Bl,nth] using this
def Ob.idx(a:Nat->Nat)(o:Ob):Ob:=⟨o.kd,o.gen,o.sz,o.n,λi=>Bl a (o.row i)⟩
def QF.idx{Z P}{h R}{N L}{w}(M)(hf:∀b,free Z N b->free P L b)
  (S:∀(l:Nat) (o:Ob) (p:Pl),h[l]? = some o->N[l]? = some p->∃q,R[M l]? = some q/\L[M l]? = some p/\q.gen=o.gen/\q.sz=o.sz/\q.kd.ty=o.kd.ty) {d:D} {v:Value} (r:QF Z h N w d v):QF P R L w (d.idx M) v:=by
 have Z1:∀(d:D) (v:Value),Cl (free Z N) w d v->QF P R L w (d.idx M) v:=by
  intro d v t;have W:=t.mono (N':=free P L) (w':=w) (λb hb _=>⟨hf b hb,rfl⟩);clear t;induction W with
  | raw v=>exact .cl _ _ (.raw v)
  | undef v=>exact .cl _ _ (.undef v)
  | nil a=>exact .cl _ _ (.nil a)
  | imm Y n T a y b o e ha m x t s k=>exact .cl _ _ (.imm Y n T a y b o e ha m x t s)
  | ip z b o e t s k=>exact .cl _ _ (.ip z b o e t s)
  | clo f Q K e m s k=>exact .clo f Q _ e (by rw[xU];exact m) (λi c=>by rw[xU]at c;rw[Hr _ _ _ c];exact k i c)
  | agg K e m s k=>exact .agg _ e (by rw[xU];exact m) (λi c=>by rw[xU]at c;rw[Hr _ _ _ c];exact k i c)
  | tup K e m s k=>exact .tup _ e (by rw[xU];exact m) (λi c=>by rw[xU]at c;rw[Hr _ _ _ c];exact k i c)
 induction r with
 | cl d v t=>exact Z1 d v t
 | ref l g U V o p a y C B E F x=>
  obtain⟨q,J,I,u,O,H⟩:=S l o p C B;exact .ref _ g U V q p a y J I (by rw[H];exact E) (by rw[u];exact F) (by rw[u,O];exact x)
 | ptr l g i j o p a C B E F x=>
  obtain⟨q,J,I,u,O,H⟩:=S l o p C B;exact .ptr _ g i j q p a J I (by rw[H];exact E) (by rw[u];exact F) (by rw[u,O];exact x)
 | mref l g o p b C B E F x=>
  obtain⟨q,J,I,u,O,H⟩:=S l o p C B;exact .mref _ g q p b J I (by rw[H];exact E) (by rw[u];exact F) (by rw[u];exact x)
 | clo f Q K e m s k=>exact .clo f Q _ e (by rw[xU];exact m) (λi c=>by rw[xU]at c;rw[Hr _ _ _ c];exact k i c)
 | agg K e m s k=>exact .agg _ e (by rw[xU];exact m) (λi c=>by rw[xU]at c;rw[Hr _ _ _ c];exact k i c)
 | tup K e m s k=>exact .tup _ e (by rw[xU];exact m) (λi c=>by rw[xU]at c;rw[Hr _ _ _ c];exact k i c)
def Xu(n:Nat):List Nat->Nat->Nat
 | [],i=>n+i
 | k::_,0=>k
 | _::r,i+1=>Xu n r i
def Yg{a:Type}(h:List a):List Nat->List a->List a
 | [],b=>h++b
 | k::r,x::b=>Yg (h.set k x) r b
 | _::_,[]=>h
def fb{n}:∀{Qo:List Nat} {i l:Nat},Qo[i]? = some l->Xu n Qo i=l
 | [],i,l,h=>by simp at h
 | k::r,0,l,h=>by simp at h;simp[Xu,h]
 | k::r,i+1,l,h=>by simp at h;simp[Xu,fb h]
def Qd4{n}:∀{Qo:List Nat} {i:Nat},Xu n Qo (Qo.length+i)=n+i
 | [],i=>by simp[Xu]
 | k::r,i=>by
  rw[show (k::r).length+i=(r.length+i)+1 by simp;omega];simp only[Xu];exact Qd4
def pK{n:Type}:∀{Qo:List Nat} {h a:List n},WX h.length Qo=true->CD Qo=true->Qo.length<=a.length->∀(i:Nat),i<a.length->(Yg h Qo a)[Xu h.length Qo i]? = a[i]?
 | [],h,a,_,_,_,i,f=>by
  simp only[Yg,Xu];rw[Kw ω];congr 1;omega
 | k::r,h,[],_,_,o,i,f=>by simp at f
 | k::r,h,x::a,l,g,o,i,f=>by
  simp only[WX,ZX,xH]at l;simp only[CD,ZX,jl]at g;simp only[Yg];have b:(h.set k x).length=h.length:=σ;cases i with
  | zero=>
   have s:k ∉ r:=λd=>by rw[xQ.2 d]at g;cases g.1
   have m:∀(r:List Nat) (c a:List n),k ∉ r->k<c.length->(Yg c r a)[k]? = c[k]? := by
    intro r;induction r with
    | nil=>intro c a _ Qc;simp only[Yg];rw[JY Qc]
    | cons j r q=>
     intro c a d Qc;cases a with
     | nil=>rfl
     | cons y p=>
      simp only[Yg];rw[q (c.set j y) p (λt=>d (Jw _ t)) (by simpa using Qc),JZ (λe=>d (by rw[e];exact Z3))]
   simp only[Xu];rw[m r (h.set k x) a s (by simpa using l.1)];simp[l.1]
  | succ i=>
   simp only[Xu];rw[<- b];exact pK (by rw[b];exact l.2) g.2 (by simpa using o) i (by simpa using f)
def OL{d:Type}:∀{Qo:List Nat} {h b:List d} {l:Nat},l<h.length->l ∉ Qo->(Yg h Qo b)[l]? = h[l]?
 | [],h,b,l,a,_=>by simp only[Yg];rw[JY a]
 | k::r,h,[],l,a,_=>rfl
 | k::r,h,x::b,l,a,c=>by
  simp only[Yg];rw[OL (by simpa using a) (λf=>c (Jw _ f)),JZ (λe=>c (by rw[e];exact Z3))]
def fc{c:Type}:∀{Qo:List Nat} {h a:List c},Qo.length<=a.length->(Yg h Qo a).length=h.length+(a.length - Qo.length)
 | [],h,a,_=>by simp[Yg]
 | k::r,h,[],b=>by simp at b
 | k::r,h,x::a,b=>by
  simp only[Yg];rw[fc (by simpa using b)];simp
def Qpp{d:Type}{a:List Nat}{h b:List d}(j:WX h.length a=true)(g:a.length<=b.length){l}(k:l<h.length+(b.length - a.length)):
  (∃i,i<b.length/\l=Xu h.length a i)\/(l<h.length/\l ∉ a):=by
 by_cases Qc:l<h.length
 .by_cases c:l∈a
  .obtain⟨i,f,e⟩:=AQ c;exact .inl ⟨i,ω,(fb (by rw[QT f,e])).symm⟩
  .exact .inr ⟨Qc,c⟩
 .refine .inl ⟨a.length+(l - h.length),ω,?_⟩;rw[Qd4];omega
section
variable {P:Program}{base nt:Nat}{w0:Start}{Q:Exit->St->Prop}
def vG(h:List Ob)(a:List Nat)(b:List Ob):List Ob:=Yg h a (b.map (Ob.idx (Xu h.length a)))
def Qpq{Z}{s:St}{f}{w J:World}{a}(R:Zo Z base s.h f w)(Q6:base<=w.heap.size)(hz:∀b,w.heap.size<=b->Z b)(hb:WX s.h.length a=true)(hd:CD a=true)
  {n:List Ob} {m:List Pl} {d:D} {v:Value} {F:List Ob} (hF:F.length=a.length) (fg:∀(i:Nat) (o u:Ob),F[i]? = some o->(∃l,a[i]? = some l/\s.h[l]? = some u)->o.gen=u.gen/\o.sz=u.sz/\o.kd.ty=u.kd.ty)
  (O':Zo (λb=>Z b/\∀l q,f[l]? = some (some (b,q))->l∈a) base n m J) (V':QF (λb=>Z b/\∀l q,f[l]? = some (some (b,q))->l∈a) n m J d v)
  (T:Tr F (vF f a) w n m J) (B:Below base w J) :
  Tr s.h f w (vG s.h a n) (Yg f a m) J/\Zo Z base (vG s.h a n) (Yg f a m) J/\QF Z (vG s.h a n) (Yg f a m) J (d.idx (Xu s.h.length a)) v:=by
 have M:WX f.length a=true:=by rw[R.len];exact hb
 have pL:m.length=n.length:=O'.len;have OM:∀(i l:Nat),a[i]? = some l->∃u p E N,s.h[l]? = some u/\f[l]? = some p/\n[i]? = some E/\m[i]? = some N/\u.gen<=E.gen/\E.kd.ty=u.kd.ty/\(E.gen=u.gen->E.sz=u.sz/\N=p):=by
  intro i l e;have t:i<a.length:=(Xa.1 e).1;have hl:l<s.h.length:=QdY hb l (NR e);have S:F[i]? = some (F[i]'ω):=QT _;have g:s.h[l]? = some s.h[l]:=QT hl;have J7:l<f.length:=by rw[R.len];exact hl
  have C:f[l]? = some f[l]:=QT J7;obtain⟨V,k2,K⟩:=fg i _ _ S ⟨l,e,g⟩;obtain⟨E,N,t1,t2,t3,t4,t5⟩:=T.obj i _ f[l] S (by rw[CE M i l e,C]);exact⟨_,_,E,N,g,C,t1,t2,ω,by rw[t4,K],λx=>by obtain⟨y,z⟩:=t5 ω;exact⟨by rw[y,k2],z⟩⟩
 have CG:a.length<=n.length:=by
  rcases Nat.eq_zero_or_pos a.length with h0|h0
  .omega
  .obtain⟨_,_,E,_,_,_,h3,_⟩:=OM (a.length - 1) _ (QT ω);have:=KY h3;omega
 have fh:a.length<=m.length:=ω;have hN:s.h.length=f.length:=R.len.symm;have fi:∀i,i<m.length->(Yg f a m)[Xu s.h.length a i]? = m[i]? := λi t=>by rw[hN];exact pK M hd fh i t
 have Tn:∀i,i<n.length->(vG s.h a n)[Xu s.h.length a i]? = (n[i]?).map (Ob.idx (Xu s.h.length a)):=λi t=>by
  unfold vG;rw[pK hb hd (by simpa using CG) i (by simpa using t),KX]
 have r:∀(l b q:Nat),l ∉ a->f[l]? = some (some (b,q))->XH m b/\J.heap[b]? = w.heap[b]? := λl b q L e=>by
  refine T.Kl b (λi Y e'=>?_) (R.lt e).1;have t:i<a.length:=by rw[<- OK M];exact WR e'
  have g:a[i]? = some a[i]:=QT t;rw[CE M i _ g]at e';have:=R.inj _ _ _ _ _ e e';exact L (by rw[this];exact zF t)
 have W:∀(l:Nat) (p:Pl),(Yg f a m)[l]? = some p->(∃i,i<m.length/\l=Xu s.h.length a i/\m[i]? = some p)\/(l<f.length/\l ∉ a/\f[l]? = some p):=λl p e=>by
  have Qc:=WR e;rw[fc fh]at Qc;rcases Qpp M fh Qc with ⟨i,t,rfl⟩|⟨O,I⟩
  .rw[hN]at fi ⊢;exact .inl ⟨i,t,rfl,by rw[<- fi i t];exact e⟩
  .exact .inr ⟨O,I,by rw[OL O I]at e;exact e⟩
 have Ow:∀b,free (λb=>Z b/\∀l q,f[l]? = some (some (b,q))->l∈a) m b->free Z (Yg f a m) b:=λb hf=>⟨hf.1.1,λl q e=>by
  rcases W l _ e with ⟨i,_,_,g⟩|⟨_,I,g⟩
  .exact hf.2 i q g
  .exact I (hf.1.2 l q g)⟩
 have Zm:∀(l:Nat) (o:Ob) (p:Pl),n[l]? = some o->m[l]? = some p->∃E,(vG s.h a n)[Xu s.h.length a l]? = some E/\(Yg f a m)[Xu s.h.length a l]? = some p/\E.gen=o.gen/\E.sz=o.sz/\E.kd.ty=o.kd.ty:=λl o p h H=>
  ⟨o.idx (Xu s.h.length a),by rw[Tn l (KY h),h];rfl,by rw[fi l (WR H),H],rfl,rfl,rfl⟩
 have T2:Tr s.h f w (vG s.h a n) (Yg f a m) J:=by
  refine⟨λb a0 Qc=>?_,λl o p h H=>?_,λl o E b q h ZU hg H c el hc=>?_⟩
  .obtain⟨O,I⟩:=T.Kl b (Qd1 M a0) Qc;refine⟨λl q e=>?_,I⟩;rcases W l _ e with ⟨i,_,_,g⟩|⟨_,_,g⟩
   .exact O i q g
   .exact a0 l q g
  .by_cases L:l∈a
   .obtain⟨i,t,e⟩:=AQ L;have g:a[i]? = some l:=by rw[QT t,e]
    obtain⟨u,p1,E,N,V,k2,K,k4,k5,k6,k7⟩:=OM i l g;rw[h]at V;cases V;rw[H]at k2;cases k2;have Hs:Xu s.h.length a i=l:=fb g;refine⟨E.idx (Xu s.h.length a),N,by rw[<- Hs,Tn i (KY K),K];rfl,by rw[<- Hs,fi i (WR k4),k4],k5,k6,k7⟩
   .exact⟨o,p,by unfold vG;rw[OL (KY h) L];exact h,by rw[OL (WR H) L];exact H,Qs _,rfl,λ_=>⟨rfl,rfl⟩⟩
  .by_cases L:l∈a
   .obtain⟨i,t,e⟩:=AQ L;have g:a[i]? = some l:=by rw[QT t,e]
    obtain⟨u,p1,o1,N,V,k2,K,k4,k5,k6,k7⟩:=OM i l g;rw[h]at V;cases V;have Hs:Xu s.h.length a i=l:=fb g;rw[<- Hs,Tn i (KY K),K]at ZU;cases ZU;have S:F[i]? = some (F[i]'ω):=QT _;obtain⟨f1,f2,f3⟩:=fg i _ _ S ⟨l,g,h⟩;have hg:o1.gen=o.gen:=hg;exact T.shape i _ o1 b q S K ω (by rw[CE M i l g,H]) c el hc
   .exact⟨c,by rw[(r l b q L H).2];exact hc,rfl⟩
 refine⟨T2,⟨?_,λl l' b q Y S g=>?_,λl o h H=>?_,λl o b q h H=>?_⟩,V'.idx _ Ow Zm⟩
 .unfold vG;rw[fc fh,fc (by simpa using CG)];simp[R.len,pL]
 .rcases W l _ S with ⟨i,t,rfl,C⟩|⟨O,I,C⟩<;>rcases W l' _ g with ⟨j,hj,rfl,e4⟩|⟨h3,h4,e4⟩
  .rw[O'.inj i j b q Y C e4]
  .exact absurd C ((r l' b Y h4 e4).1 i q)
  .exact absurd e4 ((r l b q I C).1 j Y)
  .exact R.inj l l' b q Y C e4
 .rcases W l _ H with ⟨i,t,rfl,C⟩|⟨O,I,C⟩
  .have U:i<n.length:=ω;rw[Tn i U,QT U]at h;cases h;exact O'.VX i n[i] (QT U) C
  .unfold vG at h;rw[OL ω I]at h;exact R.VX l o h C
 .rcases W l _ H with ⟨i,t,rfl,C⟩|⟨O,I,C⟩
  .have U:i<n.length:=ω;rw[Tn i U,QT U]at h;cases h;obtain⟨g1,x⟩:=O'.at_ i _ b q (QT U) C;refine⟨g1,x.to rfl rfl rfl rfl (λk _=>xU _ _) λk j v hk hj hr=>?_⟩;show QF _ _ _ _ (nth (Bl _ (n[i].row k)) j) v;rw[Hr _ _ _ hj];exact hr.idx _ Ow Zm
  .unfold vG at h;rw[OL ω I]at h;obtain⟨g1,x⟩:=R.at_ l o b q h C;exact⟨g1,x.to rfl rfl rfl (r l b q I C).2 (λ_ _=>rfl) λi j v _ _ hr=>hr.tr T2⟩
def Qpr(Q6:base<=w0.w.heap.size){o:Oper}{s}{x}{c}{Zv:Array TypeId}{f}{B}{J}(hf:Qn P f)(ho:o.op=.call ⟨.value x,c,Zv⟩)
  (hx:JU (Qp s.fr x)=some (f,B,J)) (g:List Nat) (p:WX s.h.length g=true) (I:CD g=true) (Y:Mc g (qv s.h g)) (fj:CC g (Jm B J (c.toList.map (Qp s.fr)))=true)
  {R:D->List Ob->Prop} (hF:QI P f ((qv s.h g).map (Ob.Yf g)) (wP g (Jm B J (c.toList.map (Qp s.fr)))) R)
  (N:Zt nt o.dst=true) {Z:Nat->Prop} (z:SQ w0 Z) (j:List Pl) (a:Act) (w:World) (r:Rel Z base nt s j a w) (b:Vi Z base w0 s.h j w) (Q':Exit->Act->World->Prop) :
  o.wp P a w (λT y=>(g=[]->Ext w y)/\∃d h C,R d h/\Rel Z base nt ⟨Zk s.fr o.dst (d.idx (Xu s.h.length g)),vG s.h g h⟩ C T y/\Vi Z base w0 (vG s.h g h) C y/\Tr s.h j w (vG s.h g h) C y/\∃v,T=a.put o.dst v) Q':=by
 obtain⟨V,hv,U,Fu⟩:=SX (r.eval x) hx;have K:base<=w.heap.size:=JL Q6 b.1.size;have E:∀b,w.heap.size<=b->Z b:=b.2.2.new;have qw:WX j.length g=true:=by rw[r.o.len];exact p
 have L:∀b,free Z j b->(Z b/\∀l q,j[l]? = some (some (b,q))->l∈g):=λk m=>⟨m.1,λl q e=>absurd e (m.2 l q)⟩;obtain⟨W,KI⟩:=SY (r:=λd v=>QF Z s.h j w d v) (nf:=B) U Fu (us:=c.toList.map a.eval) (args:=c.toList.map (Qp s.fr)) σ (λi n=>by
  have JR:i<c.toList.length:=by simpa using n
  simp only[nth,Q5,Q7,KX];rw[QT JR];exact r.eval _)
 have hc:=hF (λb=>Z b/\∀l q,j[l]? = some (some (b,q))->l∈g) base w (vF j g) (Jm B V (c.toList.map a.eval)) K
  (λk m=>⟨E k m,λl q e=>by have:=(r.o.lt e).1;omega⟩) (r.o.Qo L p I Y) (by rw[vE];exact W) (λi n=>by
   rw[vE]at n;rw[FE _ _ _ n];exact(KI i n).Qo L r.o.len p (OJ fj i n))
 unfold Oper.wp;rw[SZ hf ho hv w];simp only[Oper.upon_enter];refine hc.mono λe y he=>?_;obtain⟨v,d,h',C,rfl,hR,hO,hV,O,S⟩:=he;obtain⟨H,M,j3⟩:=Qpq r.o K E p I (F:=(qv s.h g).map (Ob.Yf g)) (by rw[KK,fa p]) (λi o u e ⟨l,e1,e2⟩=>by
  rw[KX,Mb p i l e1,e2]at e;cases e;exact⟨rfl,rfl,rfl⟩) hO hV O S
 refine⟨λe=>by subst e;exact λk m=>(O.Kl k (λl q e=>by simp[vF]at e) m).2,d,h',Yg j g C,hR,?_,b.step H S,H,v,rfl⟩;cases I:o.dst with
 | none=>exact r.AW H M v
 | some t=>rw[I]at N;exact r.to H M (vz N) j3
def kv(Q6:base<=w0.w.heap.size)(g){k}{H}{ty:TypeId}{pos}{I}{gd}{r}{s}{x}{n}{Zv:Array TypeId}{f}{T}{V}(hf:Qn P f)
  (hx:JU (Qp s.fr x)=some (f,T,V)) {F:List Ob} {cs:List D} (Ji:WX s.h.length g=true/\CD g=true/\Mc g (qv s.h g)/\CC g (Jm T V (n.toList.map (Qp s.fr)))=true/\KQ (wP g (Jm T V (n.toList.map (Qp s.fr)))) cs/\Cs ((qv s.h g).map (Ob.Yf g)) F)
  {R:D->List Ob->Prop} (hF:QI P f F cs R) (ht:Zt nt H=true) (hk:∀d h,R d h->Qw P base nt w0 Q (.ops r::k) .normal ⟨Zk s.fr H (d.idx (Xu s.h.length g)),vG s.h g h⟩) :
  Qw P base nt w0 Q (.ops ((⟨H,.call ⟨.value x,n,Zv⟩,ty,pos,I,gd⟩,none)::r)::k) .normal s:=by
 simp only[Qw]at hk ⊢;obtain⟨hb,hd,pM,fj,he,y⟩:=Ji;intro Z z S a w r b;simp only[qp,XK,VB];have a1:=hF.args he;have a0:QI P f ((qv s.h g).map (Ob.Yf g)) (wP g (Jm T V (n.toList.map (Qp s.fr)))) R:=by
  intro Z base w S vs h1 h2 M hl hc;have hw:=Wk.Ho (m:=F.length) (fr:=[]) y;obtain⟨W,r',K⟩:=hw Z base 0 S { tmps:=#[],defers:=[] } w ⟨rfl,rfl,λt=>.cl _ _ (.undef _),M⟩;obtain⟨e1,e2⟩:=dZ y;refine(a1 Z base w S vs h1 h2 ?_ hl (λi L=>(hc i L).Ho y)).mono λe w' ⟨v,d,h,W,k1,k2,k3,k4,k5,k6⟩=>⟨v,d,h,W,k1,k2,k3,k4,?_,k6⟩
  .refine⟨by rw[e1];exact M.len,M.inj,λl B E C=>?_,λl B b q E C=>?_⟩
   .obtain⟨o,u,J⟩:=e2 l B E;rw[J.2.2.1];exact M.VX l o u C
   .obtain⟨o,u,J,U,g6,g8,g7⟩:=e2 l B E;obtain⟨N,x⟩:=M.at_ l o b q u C;exact⟨λhr=>N (by rw[<- g8.2,hr]),x.to g8.1 U g6 rfl (λi L=>by rw[g7 i L]) λi j v L _ hr=>by rw[g7 i L];exact hr.Ho y⟩
  .have O:∀(l:Nat) (o:Ob),((qv s.h g).map (Ob.Yf g))[l]? = some o->∃B,F[l]? = some B/\Oo o B:=λl o e=>by
    have:l<F.length:=by rw[e1];exact KY e
    obtain⟨o2,u,J⟩:=e2 l _ (QT this);rw[e]at u;cases u;exact⟨_,QT this,J⟩
   refine⟨k5.Kl,λl o p E C=>?_,λl o cw b q E N8 hg C c el hc=>?_⟩
   .obtain⟨Y,N,g2,u,J,U,g6⟩:=O l o E;obtain⟨B,p',t1,t2,t3,t4,t5⟩:=k5.obj l Y p N C;exact⟨B,p',t1,t2,ω,by rw[t4,U.1],λx=>by obtain⟨y1,y2⟩:=t5 ω;exact⟨by rw[y1,u],y2⟩⟩
   .obtain⟨Y,N,g2,u,J,U,g6⟩:=O l o E;exact k5.shape l Y cw b q N N8 ω C c el hc
 exact Oper.wp_mono (λa' w' ⟨_,d,h,W,hR,r',b',_⟩=>hk d h hR Z z W a' w' r' b') (Qpr Q6 hf rfl hx g hb hd pM fj a0 ht z S a w r b _)
end
attribute [go_sem] D.idx Bl Ob.idx Xu Yg vG CD Tm
end Go.Fg
namespace Go.Fg
def fk(a:List (Nat × D)):List Nat->List (Nat × D)
 | []=>[]
 | t::r=>(t,get a t)::fk a r
attribute [go_sem] fk
def yW{G:Type}(R:Nat->Prop)(V:Nat->G->List (Nat × D))(H:Nat->G->List Ob)(a:List (Nat × D))(i:Nat)(s:St):Prop:=R i/\∃b,s=⟨V i b++a,H i b⟩
def yW.mk{G:Type}{R}{V}{H}{a}{i}(b:G)(h:R i):yW R V H a i ⟨V i b++a,H i b⟩:=⟨h,b,rfl⟩
section
variable {P:Program}{base nt:Nat}{w0:Start}{Q:Exit->St->Prop}{k:List Item}
def fm{G:Type}(f)(R)(V:Nat->G->List (Nat × D))(H:Nat->G->List Ob)(N)(b:G){c}{j}{h}{a}(p:fk j f=a)
  (m:QH w0 ⟨j,h⟩ ⟨V 0 b++a,H 0 b⟩) (o:R 0)
  (d:∀i g,i<=N->R i->Qw P base nt w0 (Tj P base nt w0 Q k (yW R V H a) N i) [.code c] .normal ⟨V i g++a,H i g⟩):Qw P base nt w0 Q (.code (.loop c)::k) .normal ⟨j,h⟩:=
 Js (yW R V H a) N m ⟨o,b,rfl⟩ λi s n ⟨l,g,e⟩=>by subst e;exact d i g n l
end
section
variable {P:Program}{base:Nat}{w0:Start}{Q:Exit->St->Prop}{X:Cx}{nt n:Nat}{k k':List Item}{s s':St}
def yX{i N:Nat}(c:i<=N)(b:i<N->hx P base w0 Q X nt n k s)(a:i=N->hx P base w0 Q X nt n k' s'):WW (decide (i<N)) (hz P base w0 Q X nt n k s) (hz P base w0 Q X nt n k' s'):=
 ⟨λh=>b (by simpa using h),λh=>a (by simp at h;omega)⟩
def yY{i N:Nat}(c:i<=N)(b:i<N->hx P base w0 Q X nt n k s)(a:i=N->hx P base w0 Q X nt n k' s'):WW (decide ((i:Int)<(N:Int))) (hz P base w0 Q X nt n k s) (hz P base w0 Q X nt n k' s'):=
 ⟨λh=>b (by simpa using h),λh=>a (by simp at h;omega)⟩
def FF{p}[Decidable p](b:p->hx P base w0 Q X nt n k s)(a:¬ p->hx P base w0 Q X nt n k' s'):WW (decide p) (hz P base w0 Q X nt n k s) (hz P base w0 Q X nt n k' s'):=
 ⟨λh=>b (X9 h),λh=>a (yL h)⟩
def FG{c:Type}[BEq c][LawfulBEq c]{a b:c}(e:a=b->hx P base w0 Q X nt n k s)(d:a≠b->hx P base w0 Q X nt n k' s'):WW (a==b) (hz P base w0 Q X nt n k s) (hz P base w0 Q X nt n k' s'):=
 ⟨λh=>e (by simpa using h),λh=>d (by simpa using h)⟩
def FH{c:Type}[BEq c][LawfulBEq c]{a b:c}(e:a≠b->hx P base w0 Q X nt n k s)(d:a=b->hx P base w0 Q X nt n k' s'):WW (a != b) (hz P base w0 Q X nt n k s) (hz P base w0 Q X nt n k' s'):=
 ⟨λh=>e (by simpa using h),λh=>d (by simpa using h)⟩
def FI{K b}{l a}{p}[Decidable p](d:p->Vc P base w0 X nt K l s)(c:¬ p->Vc P base w0 X nt b a s'):WW (decide p) (zP P base w0 X nt K l s) (zP P base w0 X nt b a s'):=
 ⟨λh=>d (X9 h),λh=>c (yL h)⟩
def FJ{K e:St->Prop}{l d:List (Bool × Oper × G)}{c:Type}[BEq c][LawfulBEq c]{a b:c}(g:a=b->Vc P base w0 X nt K l s)(f:a≠b->Vc P base w0 X nt e d s'):WW (a==b) (zP P base w0 X nt K l s) (zP P base w0 X nt e d s'):=
 ⟨λh=>g (by simpa using h),λh=>f (by simpa using h)⟩
def FK{K e:St->Prop}{l d:List (Bool × Oper × G)}{c:Type}[BEq c][LawfulBEq c]{a b:c}(g:a≠b->Vc P base w0 X nt K l s)(f:a=b->Vc P base w0 X nt e d s'):WW (a != b) (zP P base w0 X nt K l s) (zP P base w0 X nt e d s'):=
 ⟨λh=>g (by simpa using h),λh=>f (by simpa using h)⟩
end
end Go.Fg
namespace Go.Fg
open Go.RowKit (Below)
def rowFrom(b:Nat)(a:Nat->List D):Nat->List D:=λi=>a (b+i)
theorem Qd7(a):rowFrom 0 a=a:=by funext i;simp[rowFrom]
theorem Tp(b)(a)(i):rowFrom b a i=a (b+i):=rfl
mutual
def D.fz(l k n h:Nat)(a:Nat->List D):D->D
 | .ref b g c e=>bif Nat.beq b l then (bif Nat.beq g k&&Nat.ble (c+e) n then .imm h e (rowFrom c a) else .undef) else .ref b g c e
 | .ptr b g i j=>bif Nat.beq b l then (bif Nat.beq g k&&Nat.blt i n&&Nat.ble j h then .ip ((a i).drop j) else .undef) else .ptr b g i j
 | .mref b g=>bif Nat.beq b l then .undef else .mref b g
 | .clo f o m=>.clo f o (wQ l k n h a m)
 | .agg m=>.agg (wQ l k n h a m)
 | .tup m=>.tup (wQ l k n h a m)
 | d=>d
def wQ(l d n b:Nat)(a:Nat->List D):List D->List D
 | []=>[]
 | c::e=>c.fz l d n b a::wQ l d n b a e
end
def xV(l d n c)(a):∀b:List D,(wQ l d n c a b).length=b.length
 | []=>rfl
 | _::b=>by simp[wQ,xV l d n c a b]
def Ht(l e n d)(a):∀(b:List D) (i:Nat),i<b.length->nth (wQ l e n d a b) i=(nth b i).fz l e n d a
 | [],i,h=>by simp at h
 | c::b,0,_=>by simp[wQ,nth]
 | c::b,i+1,h=>by
  have:=Ht l e n d a b i (by simpa using h);simpa[wQ,nth] using this
theorem Qpv(l f n e)(d)(c)(a b):wQ l f n e d (bif c then a else b)=bif c then wQ l f n e d a else wQ l f n e d b:=by cases c<;>rfl
def OO(l c n b:Nat)(a:Nat->List D):List (Nat × D)->List (Nat × D)
 | []=>[]
 | (t,d)::r=>(t,d.fz l c n b a)::OO l c n b a r
def Qd8(l c n b)(a):∀(e:List (Nat × D)) (t:Nat),get (OO l c n b a e) t=(get e t).fz l c n b a
 | [],t=>rfl
 | (u,d)::r,t=>by
  simp only[OO,get];cases Nat.beq u t
  .exact Qd8 l c n b a r t
  .rfl
def Ob.fz(l c n b:Nat)(a:Nat->List D)(o:Ob):Ob:=⟨o.kd,o.gen,o.sz,o.n,λi=>wQ l c n b a (o.row i)⟩
def OP(l c n b:Nat)(a:Nat->List D):List Ob->List Ob
 | []=>[]
 | o::r=>o.fz l c n b a::OP l c n b a r
def OQ(l c n b)(a):∀h:List Ob,OP l c n b a h=h.map (Ob.fz l c n b a)
 | []=>rfl
 | o::r=>by simp[OP,OQ l c n b a r]
def Ob.gone(o:Ob):Ob:=⟨.arr,o.gen+1,o.sz,0,λ_=>[]⟩
section
variable {Z:Nat->Prop}
def Qpw{N}{w}(l E n y)(t){d:D}{v}(c:Cl N w d v):Cl N w (d.fz l E n y t) v:=by
 induction c with
 | raw v=>exact .raw v
 | undef v=>exact .undef v
 | nil a=>exact .nil a
 | imm s m r a u b o g C j B q p h=>exact .imm s m r a u b o g C j B q p
 | ip k b o g q p h=>exact .ip k b o g q p
 | clo f z x g j p h=>exact .clo f z _ g (by rw[xV];exact j) (λi e=>by rw[xV]at e;rw[Ht _ _ _ _ _ _ _ e];exact h i e)
 | agg x g j p h=>exact .agg _ g (by rw[xV];exact j) (λi e=>by rw[xV]at e;rw[Ht _ _ _ _ _ _ _ e];exact h i e)
 | tup x g j p h=>exact .tup _ g (by rw[xV];exact j) (λi e=>by rw[xV]at e;rw[Ht _ _ _ _ _ _ _ e];exact h i e)
def QF.fz{h:List Ob}{t:List Pl}{w:World}{l:Nat}{o:Ob}{p:Pl}(ho:h[l]? = some o)(hp:t[l]? = some p)(hk:o.kd.ty=0)(E:∀b q,p=some (b,q)->Z b/\(∀m q',t[m]? = some (some (b,q'))->m=l)/\N6 Z h t w o b q)
  (Z1:∀i,i<o.n->(o.row i).all D.ko=true) {h':List Ob} (hh:∀(m:Nat) (B:Ob),m≠l->h[m]? = some B->∃u,h'[m]? = some u/\u.gen=B.gen/\u.sz=B.sz/\u.kd.ty=B.kd.ty) {d:D} {v:Value} (r:QF Z h t w d v) :
  QF Z h' (t.set l none) w (d.fz l o.gen o.n o.sz o.row) v:=by
 have T:∀(m:Nat),m≠l->(t.set l none)[m]? = t[m]? := λm Yv=>by rw[JZ (Q8 Yv)]
 have OD:∀b,XH t b->XH (t.set l none) b:=λb E m q e=>by
  by_cases K:m=l
  .subst K;rw[Xb (WR hp)]at e;cases e
  .rw[T m K]at e;exact E m q e
 have qs:∀b,free Z t b->free Z (t.set l none) b:=λb E=>⟨E.1,OD b E.2⟩;have FL:∀b q,p=some (b,q)->free Z (t.set l none) b:=λb q e=>⟨(E b q e).1,λm q' e'=>by
  by_cases K:m=l
  .subst K;rw[Xb (WR hp)]at e';cases e'
  .rw[T m K]at e';exact K ((E b q e).2.1 m q' e')⟩
 have DD:∀b q,p=some (b,q)->∃c el,w.heap[b]? = some (.cells c el (0,0))/\(∀i,i<o.n->(o.row i).length=o.sz)/\∃y:Nat->Nat->Value,∀i j,i<o.n->j<o.sz->w.cell? ⟨b,q+(i*o.sz+j),none⟩=some (y i j)/\Cl (free Z (t.set l none)) w (nth (o.row i) j) (y i j):=λb q e=>by
  obtain⟨c,el,h1,_,h3,h4⟩:=(E b q e).2.2;refine⟨c,el,h1,h3,λi j=>(c[q+(i*o.sz+j)]?).getD Go.undef,λi j n J=>?_⟩;obtain⟨u,hu,hr⟩:=h4 i j n J;refine⟨by rw[cell_of_row w b _ c el (0,0) h1,hu];simp[hu],?_⟩;simp only[hu,Vn];have h5:=Z1 i n;rw[jo]at h5;have h6:j<(o.row i).length:=by rw[h3 i n];exact J
  have h7:(nth (o.row i) j).ko=true:=h5 _ (by simp only[nth,Q7,QT h6,Vn];exact zF h6);exact(LK hr h7).mono λx hx _=>⟨qs x hx,rfl⟩
 induction r with
 | cl d v C=>exact .cl _ _ (Qpw l o.gen o.n o.sz o.row (C.mono λb E _=>⟨qs b E,rfl⟩))
 | ref m g s W B O a a0 z F L S I=>
  by_cases e:m=l
  .subst e;rw[ho]at z;cases z;rw[hp]at F;cases F;simp only[D.fz,NU,wB];cases C:(Nat.beq g o.gen&&Nat.ble (s+W) o.n)
   .exact .cl _ _ (.undef _)
   .simp only[wB,ZX,WG,Lk]at C ⊢;rcases I C.1 with ⟨h1,h2⟩|⟨b,q,c,el,U,ha,Hs,J2,DC⟩
    .subst h1;subst h2;exact .cl _ _ (.imm _ _ _ _ _ 0 0 (λ_ _=>Go.undef) (λh=>ω) ω (λi n=>ω) (λi j n=>ω) (λi j n=>ω))
    .obtain⟨c',cT,k1,k2,y,P⟩:=DD b q U;refine .cl _ _ (.imm _ _ _ _ _ b (q+s*o.sz) (λi j=>y (s+i) j) (λ_=>ha) DC (λi n=>k2 _ ω) (λi j n J=>⟨FL b q U,?_⟩) (λi j n J=>(P (s+i) j ω J).2));rw[<- (P (s+i) j ω J).1,Kh,show q+s*o.sz+(i*o.sz+j)=q+(s*o.sz+i*o.sz+j) by omega]
  .have V:Nat.beq m l=false:=by rw[<- qk,WG];exact e
   simp only[D.fz,V,js];obtain⟨u,N,H,Y,M⟩:=hh m B e z;exact .ref m g s W u O a a0 N (by rw[T m e];exact F) (by rw[M];exact L) (by rw[H];exact S) (by rw[H,Y];exact I)
 | ptr m g i j B O a z F L S I=>
  by_cases e:m=l
  .subst e;rw[ho]at z;cases z;rw[hp]at F;cases F;simp only[D.fz,NU,wB];cases C:(Nat.beq g o.gen&&Nat.blt i o.n&&Nat.ble j o.sz)
   .exact .cl _ _ (.undef _)
   .simp only[wB,ZX,WG,Lk,xH]at C ⊢;obtain⟨b,q,U,ha⟩:=I C.1.1;obtain⟨c',cT,k1,k2,y,P⟩:=DD b q U;subst ha;have a1:((o.row i).drop j).length=o.sz - j:=by rw[bJ,k2 i C.1.2]
    refine .cl _ _ (.ip _ b _ (λk=>y i (j+k)) (λk hk=>⟨FL b q U,?_⟩) (λk hk=>?_))
    .rw[<- (P i (j+k) C.1.2 ω).1];congr 1;simp
    .rw[GZ];exact(P i (j+k) C.1.2 ω).2
  .have V:Nat.beq m l=false:=by rw[<- qk,WG];exact e
   simp only[D.fz,V,js];obtain⟨u,N,H,Y,M⟩:=hh m B e z;exact .ptr m g i j u O a N (by rw[T m e];exact F) (by rw[M];exact L) (by rw[H];exact S) (by rw[H,Y];exact I)
 | mref m g B O b z F L S I=>
  by_cases e:m=l
  .subst e;rw[ho]at z;cases z;exact absurd hk L.1
  .have V:Nat.beq m l=false:=by rw[<- qk,WG];exact e
   simp only[D.fz,V,js];obtain⟨u,N,H,Y,M⟩:=hh m B e z;exact .mref m g u O b N (by rw[T m e];exact F) (by rw[M];exact L) (by rw[H];exact S) (by rw[H];exact I)
 | clo f nf cs y R hr Q=>exact .clo f nf _ y (by rw[xV];exact R) (λi n=>by rw[xV]at n;rw[Ht _ _ _ _ _ _ _ n];exact Q i n)
 | agg cs y R hr Q=>exact .agg _ y (by rw[xV];exact R) (λi n=>by rw[xV]at n;rw[Ht _ _ _ _ _ _ _ n];exact Q i n)
 | tup cs y R hr Q=>exact .tup _ y (by rw[xV];exact R) (λi n=>by rw[xV]at n;rw[Ht _ _ _ _ _ _ _ n];exact Q i n)
end
def QH.freeze{B:Start}(L:B.pl=[])(l){M}{h:List Ob}{o:Ob}(H:h[l]? = some o)(K:o.kd.ty=0)(R:∀i,i<o.n->(o.row i).all D.ko=true):
  QH B ⟨M,h⟩ ⟨OO l o.gen o.n o.sz o.row M,(OP l o.gen o.n o.sz o.row h).set l o.gone⟩:=by
 intro Z z U nt g a w r b;have E:g.length=h.length:=r.o.len;have S:l<g.length:=by have m:=KY H;omega
 have n:g[l]? = some g[l]:=QT S;generalize oO:g[l]=p at n;have O:∀c,XH B.pl c:=λc i q e=>by rw[L]at e;simp at e
 have Y:∀d c q:Nat,g[d]? = some (some (c,q))->B.w.heap.size<=c:=λd c q e=>by
  rcases B7 c B.w.heap.size with Qc|W
  .exact absurd e ((b.2.1.Kl c (O c) Qc).1 d q)
  .exact W
 have T:∀c q,p=some (c,q)->Z c/\(∀d F,g[d]? = some (some (c,F))->d=l)/\N6 Z h g w o c q:=λc q e=>by
  subst e;exact⟨b.2.2.own l c q n (Y l c q n),λd F e'=>r.o.inj _ _ _ _ _ e' n,(r.o.at_ l o c q H n).2.cells K⟩
 have P:∀(d:Nat) (y:Ob),d≠l->h[d]? = some y->∃u,((OP l o.gen o.n o.sz o.row h).set l o.gone)[d]? = some u/\u.gen=y.gen/\u.sz=y.sz/\u.kd.ty=y.kd.ty:=λd y N e=>
  ⟨y.fz l o.gen o.n o.sz o.row,by rw[JZ (Q8 N),OQ,KX,e];rfl,rfl,rfl,rfl⟩
 have Q:∀(d:Nat),d≠l->(g.set l none)[d]? = g[d]? := λd Yv=>by rw[JZ (Q8 Yv)]
 have V:(g.set l none)[l]? = some none:=Xb S;have C:∀d c q:Nat,(g.set l none)[d]? = some (some (c,q))->d≠l/\g[d]? = some (some (c,q)):=λd c q e=>by
  by_cases f:d=l
  .subst f;rw[V]at e;cases e
  .exact⟨f,by rw[<- Q d f];exact e⟩
 refine⟨g.set l none,⟨r.nt,r.defers,λt=>?_,⟨?_,λk l2 c q F f s=>?_,λk I m f=>?_,λk I c q m f=>?_⟩⟩,b.1,⟨λc hb Qc=>?_,λk I p1 m f=>?_,λk I o2 c q m h2 hg f=>?_⟩,b.2.2.new,λk c q e h0=>b.2.2.own k c q (C _ _ _ e).2 h0⟩
 .show QF Z _ _ w (get (OO l o.gen o.n o.sz o.row M) t) _;rw[Qd8];exact(r.fr t).fz H n K T R P
 .simp[OQ,E]
 .exact r.o.inj k l2 c q F (C _ _ _ f).2 (C _ _ _ s).2
 .by_cases s:k=l
  .subst s;rw[Xb (by rw[OQ];simp;omega)]at m;cases m;rfl
  .rw[JZ (Q8 s),OQ,KX]at m;rw[Q k s]at f;obtain⟨u,J,rfl⟩:=WH.1 m;exact r.o.VX k u J f
 .obtain⟨N,s⟩:=C _ _ _ f;rw[JZ (Q8 N),OQ,KX]at m;obtain⟨u,J,rfl⟩:=WH.1 m;obtain⟨g1,x⟩:=r.o.at_ k u c q J s;refine⟨g1,x.to rfl rfl rfl rfl (λi _=>xV _ _ _ _ _ _) λi j v hi hj hr=>?_⟩;show QF Z _ _ w (nth (wQ _ _ _ _ _ (u.row i)) j) v;rw[Ht _ _ _ _ _ _ _ hj];exact hr.fz H n K T R P
 .obtain⟨k1,k2⟩:=b.2.1.Kl c hb Qc;exact⟨λd q e=>k1 d q (C _ _ _ e).2,k2⟩
 .rw[L]at f;simp at f
 .rw[L]at f;simp at f
attribute [go_sem] Qd7 Tp D.fz wQ Qpv OO Ob.fz OP Ob.gone
end Go.Fg
namespace Go.Fg
def zQ(f:D->D->Prop):List D->List D->Prop
 | [],[]=>True
 | a::r,b::s=>f a b/\zQ f r s
 | _,_=>False
def Ky:Nat->D->D->Prop
 | 0,d,c=>c=d
 | k+1,d,c=>match c with
  | .raw v=>d=.raw v
  | .undef=>True
  | .nil=>d=.nil
  | .imm z n r=>match d with
   | .imm e p h=>z=e/\n=p/\∀i,i<n->zQ (Ky k) (h i) (r i)
   | .nil=>n=0
   | _=>False
  | .ip b=>match d with
   | .ip a=>zQ (Ky k) a b
   | _=>False
  | .ref l g o n=>d=.ref l g o n
  | .ptr l g i j=>d=.ptr l g i j
  | .mref l g=>d=.mref l g
  | .clo f m b=>match d with
   | .clo s q a=>f=s/\m=q/\zQ (Ky k) a b
   | _=>False
  | .agg b=>match d with
   | .agg a=>zQ (Ky k) a b
   | _=>False
  | .tup b=>match d with
   | .tup a=>zQ (Ky k) a b
   | _=>False
def Md{f}(h:∀d,f d d):∀l,zQ f l l
 | []=>trivial
 | a::r=>⟨h a,Md h r⟩
def Hu:∀(k:Nat) (d:D),Ky k d d
 | 0,_=>rfl
 | k+1,d=>by cases d<;>simp[Ky]<;>first|exact Md (Hu k) _|exact λ_ _=>Md (Hu k) _
theorem Qpy(k)(l):zQ (Ky k) l l=True:=eq_true (Md (Hu k) l)
def yZ{f}:∀{l m:List D},zQ f l m->m.length=l.length/\∀i,i<l.length->f (nth l i) (nth m i)
 | [],[],_=>⟨rfl,λi c=>by simp at c⟩
 | [],_::_,h=>h.elim
 | _::_,[],h=>h.elim
 | a::r,b::s,h=>by
  obtain⟨e,d⟩:=yZ h.2;refine⟨by simp[e],λi c=>?_⟩;cases i with
  | zero=>exact h.1
  | succ i=>have:=d i (by simpa using c);simpa[nth] using this
def OR:∀(k:Nat) {N:Nat->Prop} {w:World} {d q:D} {v:Value},Ky k d q->Cl N w d v->Cl N w q v
 | 0,_,_,d,q,v,h,c=>by have h:q=d:=h;subst h;exact c
 | k+1,N,w,d,q,v,h,c=>by
  cases q<;>simp only[Ky]at h;case raw=>subst h;exact c
  case undef=>exact .undef _
  case nil=>subst h;exact c
  case imm z n r=>
   split at h
   .obtain⟨rfl,rfl,h⟩:=h;cases c with
    | imm _ _ _ a y b o e C s B t g=>
     exact .imm _ _ _ a y b o e C s (λi l=>by rw[(yZ (h i l)).1];exact B i l) t (λi j l m=>OR k ((yZ (h i l)).2 j (by rw[B i l];exact m)) (g i j l m))
   .subst h;cases c with
    | nil a=>exact .imm _ _ _ _ _ 0 0 (λ_ _=>Go.undef) (λh=>ω) ω (λi l=>ω) (λi j l=>ω) (λi j l=>ω)
   .exact h.elim
  case ip x=>
   split at h
   .obtain⟨u,p⟩:=yZ h;cases c with
    | ip _ b o e t g=>exact .ip _ b o e (λj m=>t j ω) (λj m=>OR k (p j ω) (g j ω))
   .exact h.elim
  case ref=>subst h;exact c
  case ptr=>subst h;exact c
  case mref=>subst h;exact c
  case clo f E x=>
   split at h
   .obtain⟨rfl,rfl,h⟩:=h;obtain⟨u,p⟩:=yZ h;cases c with
    | clo _ _ _ e s g=>exact .clo _ _ _ e ω (λj m=>OR k (p j ω) (g j ω))
   .exact h.elim
  case agg x=>
   split at h
   .obtain⟨u,p⟩:=yZ h;cases c with
    | agg _ e s g=>exact .agg _ e ω (λj m=>OR k (p j ω) (g j ω))
   .exact h.elim
  case tup x=>
   split at h
   .obtain⟨u,p⟩:=yZ h;cases c with
    | tup _ e s g=>exact .tup _ e ω (λj m=>OR k (p j ω) (g j ω))
   .exact h.elim
def xW:∀(k:Nat) {Z:Nat->Prop} {h:List Ob} {z:List Pl} {w:World} {d m:D} {v:Value},Ky k d m->QF Z h z w d v->QF Z h z w m v
 | 0,_,_,_,_,d,m,v,e,c=>by have e:m=d:=e;subst e;exact c
 | k+1,Z,h,z,w,d,m,v,e,c=>by
  cases c with
  | cl _ _ K=>exact .cl _ _ (OR (k+1) e K)
  | ref l g B C o p a E t s u x q=>
   cases m<;>simp only[Ky,reduceCtorEq]at e
   .exact .cl _ _ (.undef _)
   .cases e;exact .ref l g B C o p a E t s u x q
  | ptr l g i j o p a t s u x q=>
   cases m<;>simp only[Ky,reduceCtorEq]at e
   .exact .cl _ _ (.undef _)
   .cases e;exact .ptr l g i j o p a t s u x q
  | mref l g o p b t s u x q=>
   cases m<;>simp only[Ky,reduceCtorEq]at e
   .exact .cl _ _ (.undef _)
   .cases e;exact .mref l g o p b t s u x q
  | clo f L J n F r=>
   cases m<;>simp only[Ky,reduceCtorEq]at e
   .exact .cl _ _ (.undef _)
   .obtain⟨rfl,rfl,e⟩:=e;obtain⟨I,y⟩:=yZ e;exact .clo _ _ _ n ω (λj H=>xW k (y j ω) (r j ω))
  | agg J n F r=>
   cases m<;>simp only[Ky,reduceCtorEq]at e
   .exact .cl _ _ (.undef _)
   .obtain⟨I,y⟩:=yZ e;exact .agg _ n ω (λj H=>xW k (y j ω) (r j ω))
  | tup J n F r=>
   cases m<;>simp only[Ky,reduceCtorEq]at e
   .exact .cl _ _ (.undef _)
   .obtain⟨I,y⟩:=yZ e;exact .tup _ n ω (λj H=>xW k (y j ω) (r j ω))
def Told(R:D->List Ob->Prop)(d:D)(h:List Ob):Prop:=∃a,Ky 6 d a/\R a h
def QI.tell{P}{f}{F}{a}{R}(h:QI P f F a (Told R)):QI P f F a R:=λZ b w e c q p o l n=>
 (h Z b w e c q p o l n).mono λ_ _ ⟨v,d,m,u,k,⟨t,s,r⟩,j,i,g⟩=>⟨v,t,m,u,k,r,j,xW 6 s i,g⟩
def Q9.tell{P}{f}{a}{R}(h:Q9 P f a (Told R)):Q9 P f a R:=QI.tell h
def QI.Qpz{P}{f}{F}{cs' b}{R}(h:QI P f F b R)(e:zQ (Ky 6) cs' b):QI P f F cs' R:=λZ a w d c l k j n g=>by
 obtain⟨p,m⟩:=yZ e;exact h Z a w d c l k j ω λi o=>xW 6 (m i ω) (g i ω)
def OS(a:List (Nat × D)):List (Nat × D)->Prop
 | []=>True
 | (t,d)::r=>Ky 6 (get a t) d/\OS a r
def Qd9{a}:∀{r:List (Nat × D)},OS a r->∀t d,(t,d)∈r->Ky 6 (get a t) d
 | [],_,_,_,h=>by cases h
 | (u,e)::r,h,t,d,b=>by
  rcases QG.1 b with h1|h1
  .cases h1;exact h.1
  .exact Qd9 h.2 t d h1
def fp(o a:Ob):Prop:=a.gen=o.gen/\a.sz=o.sz/\a.n=o.n/\a.kd.S3 o.kd/\∀i,i<o.n->zQ (Ky 6) (o.row i) (a.row i)
def OT:List Ob->List Ob->Prop
 | [],[]=>True
 | o::r,b::a=>fp o b/\OT r a
 | _,_=>False
def Qea:∀{h b:List Ob},OT h b->b.length=h.length/\∀(l:Nat) (a:Ob),b[l]? = some a->∃o,h[l]? = some o/\fp o a
 | [],[],_=>⟨rfl,λl a e=>by simp at e⟩
 | [],_::_,h=>h.elim
 | _::_,[],h=>h.elim
 | o::r,a::i,h=>by
  obtain⟨g,f⟩:=Qea h.2;refine⟨by simp[g],λl u e=>?_⟩;cases l with
  | zero=>simp at e;subst e;exact⟨o,rfl,h.1⟩
  | succ l=>simp at e;obtain⟨v,d,c⟩:=f l u e;exact⟨v,by simpa using d,c⟩
def Wk.tell{m}{V z}{h E}(hf:OS V z)(B:OT h E):Wk m ⟨V,h⟩ ⟨z,E⟩:=λZ W nt N a w r=>by
 obtain⟨h1,P⟩:=Qea B;have y:∀(l:Nat) (o:Ob),h[l]? = some o->∃k,E[l]? = some k/\fp o k:=λl o e=>by
  have:l<E.length:=by rw[h1];exact KY e
  obtain⟨o2,n,c⟩:=P l _ (QT this);rw[e]at n;cases n;exact⟨_,QT this,c⟩
 have M:∀{d:D} {v:Value},QF Z h N w d v->QF Z E N w d v:=λr=>by
  induction r with
  | cl d v hc=>exact .cl d v hc
  | ref l g Q R o p a S u s J K I=>
   obtain⟨k,n,c⟩:=y l o u;exact .ref l g Q R k p a S n s (by rw[c.2.2.2.1.1];exact J) (by rw[c.1];exact K) (λe=>by rw[c.2.1];exact I (by rw[e,c.1]))
  | ptr l g i j o p a u s J K I=>
   obtain⟨k,n,c⟩:=y l o u;exact .ptr l g i j k p a n s (by rw[c.2.2.2.1.1];exact J) (by rw[c.1];exact K) (λe=>by rw[c.2.1];exact I (by rw[e,c.1]))
  | mref l g o p b u s J K I=>
   obtain⟨k,n,c⟩:=y l o u;exact .mref l g k p b n s (by rw[c.2.2.2.1.1];exact J) (by rw[c.1];exact K) (λe=>I (by rw[e,c.1]))
  | clo f Y L F B C H=>exact .clo f Y L F B H
  | agg L F B C H=>exact .agg L F B H
  | tup L F B C H=>exact .tup L F B H
 refine⟨N,⟨r.nt,r.defers,λt=>?_,⟨by rw[h1];exact r.o.len,r.o.inj,λl k u s=>?_,λl k b q u s=>?_⟩⟩,λ_ h=>h,λl o p _ u s=>?_⟩
 .rcases Qdh z t with h1|h1
  .show QF Z E N w (get z t) _;rw[h1];exact .cl _ _ (.undef _)
  .exact xW 6 (Qd9 hf _ _ h1) (M (r.fr t))
 .obtain⟨o,n,c⟩:=P l k u;rw[c.2.2.1];exact r.o.VX l o n s
 .obtain⟨o,n,c,h5,h6,T,U⟩:=P l k u;obtain⟨g1,x⟩:=r.o.at_ l o b q n s;exact⟨λC=>g1 (by rw[<- T.2,C]),x.to T.1 h5 h6 rfl (λi O=>(yZ (U i O)).1) λi j v O hj C=>xW 6 ((yZ (U i O)).2 j hj) (M C)⟩
 .obtain⟨k,n,c⟩:=y l o u;exact⟨k,n,s,c.1,c.2.1,c.2.2.2.1.1⟩
def QH.tell{e}{d a}{h c}(b:OS d a/\OT h c):QH e ⟨d,h⟩ ⟨a,c⟩:=(Wk.tell b.1 b.2).up
def QH.toT{d:Start}(k){f a}{h b:List Ob}(c:OS f a/\OT h (b++h.drop k)/\Hp k a=true/\Cu k b/\b.length=k)(g:d.F.length<=k:=by exact NY rfl):QH d ⟨f,h⟩ ⟨a,b⟩:=by
 refine QH.trans (QH.tell ⟨c.1,c.2.1⟩) ?_;have e:(b++h.drop k).take k=b:=by rw[List.take_append_of_le_length ω,List.take_of_length_le ω]
 have:=Wk.drop (m:=d.F.length) k g (fr:=a) (h:=b++h.drop k) c.2.2.1 (by rw[e];exact c.2.2.2.1);rw[e]at this;exact this.up
section
variable {k:Nat}{d:D}
theorem QpA:Ky k d d=True:=eq_true (Hu k d)
theorem QpB{v}:Ky (k+1) d (.raw v)=(d=.raw v):=rfl
theorem QpC:Ky (k+1) d .undef=True:=rfl
theorem QpD:Ky (k+1) d .nil=(d=.nil):=rfl
theorem fq{z n a c}{r b}:Ky (k+1) (.imm a c b) (.imm z n r)=(z=a/\n=c/\∀i,i<n->zQ (Ky k) (b i) (r i)):=rfl
theorem QpE{z n}{r}:Ky (k+1) .nil (.imm z n r)=(n=0):=rfl
theorem QpF{l g o n}:Ky (k+1) d (.ref l g o n)=(d=.ref l g o n):=rfl
theorem QpG{l g i j}:Ky (k+1) d (.ptr l g i j)=(d=.ptr l g i j):=rfl
theorem QpH{l g}:Ky (k+1) d (.mref l g)=(d=.mref l g):=rfl
theorem QpI{b a}:Ky (k+1) (.ip a) (.ip b)=zQ (Ky k) a b:=rfl
theorem QpJ{f e}{b c}{g a}:Ky (k+1) (.clo e c a) (.clo f b g)=(f=e/\b=c/\zQ (Ky k) a g):=rfl
theorem QpK{b a}:Ky (k+1) (.agg a) (.agg b)=zQ (Ky k) a b:=rfl
theorem QpL{b a}:Ky (k+1) (.tup a) (.tup b)=zQ (Ky k) a b:=rfl
theorem QpM{f}:zQ f [] []=True:=rfl
theorem QpN{f}{a b}{r s}:zQ f (a::r) (b::s)=(f a b/\zQ f r s):=rfl
end
attribute [go_sem] QpA QpB QpC QpD fq QpE QpF QpG QpH QpI QpJ QpK QpL QpM QpN Qpy OS fp OT
end Go.Fg
