/- Contracts and laws on the way to the statement. No conditions. -/
import Derived.Test.YtbemejcgkfieeaaGreatFgMapHB
import Derived.Scope
import Derived.OrdersHeld
set_option maxRecDepth 100000
set_option maxHeartbeats 16000000
set_option linter.unusedVariables false
set_option linter.unusedSimpArgs false
set_option linter.unusedSectionVars false
set_option linter.defProp false
namespace Go.Fg
open Go.RowKit (Below)
variable {Z:Nat->Prop}
structure Cx where
 L:Jf
 E:CY
def yh(X:Cx)(s:St):Op->Ev
 | .move x=>some (True,Qs s.fr x)
 | .assign x=>some (True,Qs s.fr x)
 | .pick c x y=>match Qs s.fr c with
  | .raw (.bool b)=>some (True,bif b then Qs s.fr x else Qs s.fr y)
  | _=>none
 | .binOp g t x y _=>match bJ X.L g t (Qs s.fr x) (Qs s.fr y) with
  | some r=>some r
  | none=>cD X.E g t (Qs s.fr x) (Qs s.fr y)
 | .unOp u _ x=>match u,Qs s.fr x with
  | .not,.raw (.bool b)=>some (True,.raw (.bool (!b)))
  | .neg,.raw (.int k n)=>some (True,.raw (.int k (k.wrap (0-n))))
  | .xor,.raw (.int k n)=>some (True,.raw (.int k (bits .xor k (if k.signed then -1 else k.max) n)))
  | _,_=>none
 | .convert a b x=>bT X.L a b (Qs s.fr x)
 | .build t parts=>match cu X.L s.fr t parts.toList with
  | some d=>some (True,d)
  | none=>none
 | .load t x=>IF X.L s.h t (Qs s.fr x)
 | .nilCheck x=>bif (Qs s.fr x).there then some (True,Qs s.fr x) else none
 | .fieldAddr t x f=>bK X.L t f (Qs s.fr x)
 | .field t x f=>bL X.L t f (Qs s.fr x)
 | .indexAddr t x i=>bM X.L s.h t (Qs s.fr x) (Qs s.fr i)
 | .index t x i=>bO X.L t (Qs s.fr x) (Qs s.fr i)
 | .extract x i=>match Qs s.fr x with
  | .tup l=>some (i<l.length,nth l i)
  | _=>none
 | .slice t x p q o=>match o with
  | none=>cz X.L s.fr s.h t (Qs s.fr x) p q
  | some _=>none
 | .makeFunc v first z=>match v,first with
  | .func f,⟨j⟩=>some (True,.clo f j.length ((j++z.toList).map (Qs s.fr)))
  | _,_=>none
 | .call ⟨.builtin b,⟨e⟩,⟨w⟩⟩=>match b,e,w with
  | .len,[x],[t]=>match bU X.L t (Qs s.fr x) with
   | some r=>some r
   | none=>cP X.L s.h t (Qs s.fr x)
  | .max,[x,y],_=>match Qs s.fr x,Qs s.fr y with
   | .raw (.int k m),.raw (.int _ n)=>some (True,.raw (.int k (max m n)))
   | _,_=>none
  | .min,[x,y],_=>match Qs s.fr x,Qs s.fr y with
   | .raw (.int k m),.raw (.int _ n)=>some (True,.raw (.int k (min m n)))
   | _,_=>none
  | _,_,_=>none
 | .lookup t x i h=>match cO X.L s.h t (Qs s.fr x) (Qs s.fr i) h with
  | some r=>some r
  | none=>bif h then cU X.L X.E s.h t (Qs s.fr x) (Qs s.fr i) else none
 | _=>none
structure qz (P:Program) (X:Cx):Prop where
 L:Z8 P X.L
 E:An P X.E
def QcL{P}{X}(g:qz P X){base nt}{s}{o:Oper}{p}{d}(h:yh X s o.op=some (p,d))(j:p):Ww P base nt o s d:=by
 unfold yh at h;split at h;case h_1 x e=>simp only[Q5,Q9]at h;obtain⟨rfl,rfl⟩:=h;exact QbX (.inl e)
 case h_2 x e=>simp only[Q5,Q9]at h;obtain⟨rfl,rfl⟩:=h;exact QbX (.inr e)
 case h_3 c x y e=>
  split at h;rename_i b E;simp only[Q5,Q9]at h;obtain⟨rfl,rfl⟩:=h;exact Qna e E;cases h
 case h_4 H t x y F e=>
  split at h;rename_i r l;simp only[Q5]at h;subst h;exact Qm9 g.L e l j;exact QnJ g.E e h
 case h_5 u t x e=>
  split at h;rename_i b hx;simp only[Q5,Q9]at h;obtain⟨rfl,rfl⟩:=h;exact Qnh e rfl hx;rename_i k n hx;simp only[Q5,Q9]at h;obtain⟨rfl,rfl⟩:=h;exact Qni e rfl hx;rename_i k n hx;simp only[Q5,Q9]at h;obtain⟨rfl,rfl⟩:=h;exact Qnj e rfl hx;cases h
 case h_6 a b x e=>exact Qnl g.L e h
 case h_7 t parts e=>
  split at h;rename_i N C;simp only[Q5,Q9]at h;obtain⟨rfl,rfl⟩:=h;exact QnE g.L e C;cases h
 case h_8 t x e=>exact Qb0 g.L e h j
 case h_9 x e=>
  obtain⟨B,q⟩:=jy h;simp only[Q5,Q9]at q;obtain⟨rfl,rfl⟩:=q;exact Qnk e rfl B
 case h_10 t x f e=>exact Qnb g.L e h j
 case h_11 t x f e=>exact Qnc g.L e h j
 case h_12 t x i e=>exact Qnf g.L e h j
 case h_13 t x i e=>exact Qb2 g.L e h j
 case h_14 x i e=>
  split at h;rename_i O hx;simp only[Q5,Q9]at h;obtain⟨rfl,rfl⟩:=h;exact Qng e hx j;cases h
 case h_15 t x K L J e=>
  split at h;exact QnI g.L e h j;cases h
 case h_16 M first R e=>
  split at h;simp only[Q5,Q9]at h;obtain⟨rfl,rfl⟩:=h;exact Qno e;cases h
 case h_17 b w Q e=>
  split at h;split at h;rename_i r l;simp only[Q5]at h;subst h;exact bV g.L e l;exact Qn0 g.L e rfl h j;split at h;rename_i k m z n hx v;simp only[Q5,Q9]at h;obtain⟨rfl,rfl⟩:=h;exact Qnm e hx v;cases h;split at h;rename_i k m z n hx v;simp only[Q5,Q9]at h;obtain⟨rfl,rfl⟩:=h;exact Qnn e hx v;cases h;cases h
 case h_18 t x i I e=>
  split at h;rename_i r l;simp only[Q5]at h;subst h;exact look_ok g.L e l j;obtain⟨rfl,q⟩:=jy h;exact Qof g.L g.E e q j
 case h_19=>cases h
def Ar(X:Cx)(s:St):Op->Option (Prop × List Ob × D)
 | .alloc t=>match ty X.L t with
  | some y=>some (True,s.h++[⟨.one,0,(y.zero.map J2).length,1,λ_=>y.zero.map J2⟩],.ptr s.h.length 0 0 0)
  | none=>none
 | .box _ x=>match Yf (Qs s.fr x) with
  | some f=>some (True,s.h++[⟨.one,0,f.length,1,λ_=>f⟩],.ptr s.h.length 0 0 0)
  | none=>none
 | .store t a x=>match R3 X.L s.h t (Qs s.fr a) (Qs s.fr x) with
  | some (p,c)=>some (p,c,.undef)
  | none=>none
 | .buildSlice t e parts=>cv X.L s.fr s.h t e parts.toList
 | .call ⟨.builtin b,⟨d⟩,⟨j⟩⟩=>match b,d,j with
  | .append,[x,y],[t,g]=>bif Nat.beq t g then CW X.L s.h t (Qs s.fr x) (Qs s.fr y) else none
  | .delete,[x,i],[t,_]=>match cR X.L s.h t (Qs s.fr x) (Qs s.fr i) with
   | some (p,c)=>some (p,c,.tup [])
   | none=>none
  | _,_,_=>none
 | .makeMap t h=>match h with
  | none=>NU X.L s.h t
  | some (.const (.int _ n))=>bif decide (0<=n) then NU X.L s.h t else none
  | some _=>none
 | .mapUpdate t x i v=>match GN X.L s.h t (Qs s.fr x) (Qs s.fr i) (Qs s.fr v) with
  | some (p,c)=>some (p,c,.undef)
  | none=>match cV X.L X.E s.h t (Qs s.fr x) (Qs s.fr i) (Qs s.fr v) with
   | some (p,c)=>some (p,c,.undef)
   | none=>none
 | .range t x=>cS X.L s.h t (Qs s.fr x)
 | _=>none
def Qoh{L}{h}{t:TypeId}{s x}{r}(e:CW L h t s x=some r):s=.nil\/∃l g a b,s=.ref l g a b:=by
 unfold CW at e;split at e;split at e;exact .inl rfl;exact .inr ⟨_,_,_,_,rfl⟩;cases e;cases e
def QcM{P}{X}(f:qz P X){base nt}{s}{o:Oper}{p}{B}{d}(h:Ar X s o.op=some (p,B,d))(j:p):jz P base nt o s B d:=by
 unfold Ar at h;split at h;case h_1 t c=>
  split at h;rename_i y E;simp only[Q5,Q9]at h;obtain⟨rfl,rfl,rfl⟩:=h;exact Qnu f.L c E;cases h
 case h_2 t x c=>
  split at h;rename_i K H;simp only[Q5,Q9]at h;obtain⟨rfl,rfl,rfl⟩:=h;exact Qnt c H;cases h
 case h_3 t a x c=>
  split at h;rename_i r w m;simp only[Q5,Q9]at h;obtain⟨rfl,rfl,rfl⟩:=h;exact Qns f.L c m j;cases h
 case h_4 t z parts c=>exact QnF f.L c h j
 case h_5 b C L c=>
  split at h;obtain⟨u,q⟩:=jy h;have u:=RM u;subst u;rcases Qoh q with e|⟨l,g,I,z,e⟩;rw[e]at q;exact QnA f.L c e q j;rw[e]at q;exact QnB f.L c e q j;split at h;rename_i r w m;simp only[Q5,Q9]at h;obtain⟨rfl,rfl,rfl⟩:=h;exact Qn2 f.L c m j;cases h;cases h
 case h_6 t J c=>
  split at h;exact Qct f.L (.inl rfl) c h;rename_i k n;obtain⟨F,q⟩:=jy h;exact Qct f.L (.inr ⟨k,n,rfl,qZ F⟩) c q;cases h
 case h_7 t x i v c=>
  split at h;rename_i r w m;simp only[Q5,Q9]at h;obtain⟨rfl,rfl,rfl⟩:=h;exact Qn1 f.L c m j;split at h;rename_i r w m;simp only[Q5,Q9]at h;obtain⟨rfl,rfl,rfl⟩:=h;exact Qog f.L f.E c m j;cases h
 case h_8 t x c=>exact Qn5 f.L c h j
 case h_9=>cases h
abbrev G:=Option (Option Nat × Bool)
def guardOf(a:Array Oper)(o:Oper):G:=match o.guard with
 | none=>none
 | some (j,b)=>some ((a[j]?).bind (·.dst),b)
def strip(o : Oper): Oper := ⟨o.dst, o.op, o.type, "", #[], none⟩
theorem Qoi{P}{o:Oper}{a}{w}{K}{Q}:(strip o).wp P a w K Q=o.wp P a w K Q:=rfl
def BB(a:Array Oper):List (Oper × G):=a.toList.map λo=>(strip o,guardOf a o)
def NX(a:Array Value)(t:Nat):Option Bool:=match a[t]? with
 | some (.bool b)=>some b
 | _=>none
def Xq(g:G)(a:Array Value):Bool:=match g with
 | none=>true
 | some (none,_)=>false
 | some (some t,b)=>NX a t==some b
def NY(c)(o)(a):Region.wanted o (yielded c a)=Xq (guardOf c o) a:=by
 unfold Region.wanted guardOf Xq;cases g:o.guard with
 | none=>rfl
 | some e=>
  obtain⟨j,b⟩:=e;dsimp only;cases d:(c[j]?).bind (·.dst) with
  | none=>simp[yielded,d]
  | some t=>
   simp only[yielded,d,bu,NX];cases f:a[t]? with
   | none=>rfl
   | some v=>cases v<;>rfl
def YY(P:Program)(Q:Exit->Act->World->Prop):List (Oper × G)->Act->World->Prop
 | [],a,w=>Q .normal a w
 | (o,g)::r,a,w=>if Xq g a.tmps=true then o.wp P a w (YY P Q r) Q else YY P Q r (a.put o.dst Go.undef) w
def ot{P}{b:Array Oper}{Q}:∀(n i:Nat) (a:Act) (w:World),i+n=b.size->YY P Q ((BB b).drop i) a w->wpOps P b Q (List.range' i n) a w
 | 0,i,a,w,m,h=>by
  have:(BB b).drop i=[]:=aR (by simp[BB];omega);rw[this]at h;exact h
 | n+1,i,a,w,m,h=>by
  have Qb:i<b.size:=ω;have o:(BB b).drop i=(strip b[i],guardOf b b[i])::(BB b).drop (i+1):=by
   rw[RE (by simp[BB];omega)];simp[BB]
  rw[o]at h;rw[List.range'_succ];simp only[wpOps,jr Qb,NY];simp only[YY]at h;split at h;rename_i g;rw[Qd g];refine .inl ?_;have d:∀(K k:Act->World->Prop),(∀a w,K a w->k a w)->b[i].wp P a w K Q->b[i].wp P a w k Q:=by
   intro K k j c;unfold Oper.wp at *;generalize (execOp a.eval b[i]).run P w=r at *;cases r with
   | ok x l=>
    cases x<;>simp only[Oper.upon]at c ⊢<;>first|exact j _ _ c|exact c|skip
    exact c.mono λe p f=>by cases e<;>first|exact j _ _ f|exact f
    exact c.mono λv p f=>j _ _ f
   | halt x l=>cases x<;>exact c
  rw[Qoi]at h;exact d _ _ (λa w=>ot n (i+1) a w ω) h;rename_i g;rw[Qc g];exact ot n (i+1) _ w ω h
def Qoj{P}{c}{b}{Q}{a}{w}(h:YY P Q (BB b) a w):(Code.region c b false).wp P Q a w:=
 wp_region (by rw[List.range_eq_range'];exact ot b.size 0 a w ω (by simpa using h))
structure Start where
 w:World
 F:List Ob
 pl:List Pl
structure IX (Z:Nat->Prop) (w0:Start) (pl:List Pl) (w:World):Prop where
 new:∀b,w.heap.size<=b->Z b
 own:∀(l b q:Nat),pl[l]?=some (some (b,q))->w0.w.heap.size<=b->Z b
def IX.step{Z}{d}{h h'}{c g}{w a:World}(S:IX Z d c w)(T:Tr h c w h' g a)(p:w.heap.size<=a.heap.size):IX Z d g a where
 new:=λb r=>S.new b ω
 own:=λl b q e n=>by
  rcases wU b w.heap.size with Qb|o;by_cases f:Xp c b;exact absurd e ((T.JU b f Qb).1 l q);obtain⟨j,m⟩:=Nu.1 f;obtain⟨i,k⟩:=Nu.1 m;exact S.own j b i (Classical.not_not.1 k) n;exact S.new b o
def IX.start{Z}{a}{w0:Start}{h}{c}(R:Zh Z a h c w0.w)(d:∀b,w0.w.heap.size<=b->Z b):IX Z w0 c w0.w where
 new:=d
 own:=λl b q e f=>absurd (R.lt e).1 ω
def Va(Z:Nat->Prop)(b:Nat)(a:Start)(h:List Ob)(c:List Pl)(w:World):Prop:=Below b a.w w/\Tr a.F a.pl a.w h c w/\IX Z a c w
def Va.step{Z}{a}{d}{h h'}{e f}{w c}(S:Va Z a d h e w)(T:Tr h e w h' f c)(b:Below a w c):Va Z a d h' f c:=⟨S.1.trans b,S.2.1.trans T,S.2.2.step T b.size⟩
section
variable (P:Program)(base nt:Nat)(w0:Start)
def Sg(_:Start)(_:Nat->Prop):Prop:=True
def lift(Z:Nat->Prop)(Q:Exit->St->Prop)(e:Exit)(a:Act)(w:World):Prop:=∃s b,Q e s/\Rel Z base nt s b a w/\Va Z base w0 s.h b w
def A(c:Code)(Q:Exit->St->Prop)(s:St):Prop:=∀(Z:Nat->Prop),Sg w0 Z->∀b a w,Rel Z base nt s b a w->Va Z base w0 s.h b w->c.wp P (lift base nt w0 Z Q) a w
def AG(l:List (Oper × G))(Q:Exit->St->Prop)(s:St):Prop:=∀(Z:Nat->Prop),Sg w0 Z->∀b a w,Rel Z base nt s b a w->Va Z base w0 s.h b w->YY P (lift base nt w0 Z Q) l a w
end
inductive Item where
 | code (c:Code)
 | ops (l:List (Oper × G))
 | inBlock (id:Nat)
 | inScope
def Qz(P:Program)(a d:Nat)(b:Start)(Q:Exit->St->Prop):List Item->Exit->St->Prop
 | [],e,s=>Q e s
 | .code c::k,.normal,s=>A P a d b c (Qz P a d b Q k) s
 | .code _::k,e,s=>Qz P a d b Q k e s
 | .ops l::k,.normal,s=>AG P a d b l (Qz P a d b Q k) s
 | .ops _::k,e,s=>Qz P a d b Q k e s
 | .inBlock id::k,.exit j,s=>if j=id then Qz P a d b Q k .normal s else Qz P a d b Q k (.exit j) s
 | .inBlock _::k,e,s=>Qz P a d b Q k e s
 | .inScope::_,.goto _,_=>False
 | .inScope::k,e,s=>Qz P a d b Q k e s
inductive Tree where
 | done (e:Exit) (s:St)
 | stop (k:List Item) (s:St)
 | vc (p:Prop) (t:Tree)
 | ite (b:Bool) (t e:Tree)
 | fail
def Tree.holds(P:Program)(a d:Nat)(c:Start)(Q:Exit->St->Prop):Tree->Prop
 | .done e s=>Q e s
 | .stop k s=>Qz P a d c Q k .normal s
 | .vc p t=>p/\t.holds P a d c Q
 | .ite b t e=>(b=true->t.holds P a d c Q)/\(b=false->e.holds P a d c Q)
 | .fail=>False
def jD(a:Nat):List Item->Option (List Item)
 | []=>none
 | .inBlock j::k=>bif Nat.beq a j then some k else jD a k
 | _::k=>jD a k
def Zb(a:List (Nat × D))(t:Option Nat)(d:D):List (Nat × D):=match t with
 | none=>a
 | some t=>put a t d
def Zn(a:Nat):Option Nat->Bool
 | none=>true
 | some t=>Nat.blt t a
def EG:Bool->Bool->Bool
 | true,x=>x
 | false,x=>!x
def QcN(b x):EG b x=(x==b):=by cases b<;>cases x<;>rfl
def exec(X:Cx)(e:Nat):Nat->List Item->St->Tree
 | 0,k,s=>.stop k s
 | _+1,[],s=>.done .normal s
 | n+1,.inBlock _::k,s=>exec X e n k s
 | n+1,.inScope::k,s=>exec X e n k s
 | n+1,.code c::k,s=>match c with
  | .skip=>exec X e n k s
  | .label _=>exec X e n k s
  | .seq a b=>exec X e n (.code a::.code b::k) s
  | .cond c a b=>match Qs s.fr c with
   | .raw (.bool x)=>.ite x (exec X e n (.code a::k) s) (exec X e n (.code b::k) s)
   | _=>.fail
  | .block id c=>exec X e n (.code c::.inBlock id::k) s
  | .scope c=>exec X e n (.code c::.inScope::k) s
  | .exit id=>match jD id k with
   | some i=>exec X e n i s
   | none=>.done (.exit id) s
  | .ret=>.done .ret s
  | .region id f h=>bif h then .stop (.code (.region id f h)::k) s else exec X e n (.ops (BB f)::k) s
  | c=>.stop (.code c::k) s
 | n+1,.ops []::k,s=>exec X e n k s
 | n+1,.ops ((o,g)::r)::k,s=>match g with
  | none=>match yh X s o.op with
   | some (p,d)=>bif Zn e o.dst then .vc p (exec X e n (.ops r::k) ⟨Zb s.fr o.dst d,s.h⟩) else .fail
   | none=>match Ar X s o.op with
    | some (p,j,d)=>bif Zn e o.dst then .vc p (exec X e n (.ops r::k) ⟨Zb s.fr o.dst d,j⟩) else .fail
    | none=>.stop (.ops ((o,none)::r)::k) s
  | some (none,_)=>bif Zn e o.dst then exec X e n (.ops r::k) ⟨Zb s.fr o.dst (.raw Go.undef),s.h⟩ else .fail
  | some (some t,b)=>match get s.fr t with
   | .raw (.bool x)=>.ite (EG b x) (exec X e n (.ops ((o,none)::r)::k) ⟨put s.fr t (.raw (.bool b)),s.h⟩)
     (bif Zn e o.dst then exec X e n (.ops r::k) ⟨Zb (put s.fr t (.raw (.bool (!b)))) o.dst (.raw Go.undef),s.h⟩ else .fail)
   | .raw (.tuple _)=>bif Zn e o.dst then exec X e n (.ops r::k) ⟨Zb s.fr o.dst (.raw Go.undef),s.h⟩ else .fail
   | _=>.fail
section
variable {P:Program}{base nt:Nat}{w0:Start}{Q:Exit->St->Prop}
def A.mono{c}{Q d}{s}(h:A P base nt w0 c Q s)(i:∀e s,Q e s->d e s):A P base nt w0 c d s:=
 λZ z g a w r b=>wp_mono (h Z z g a w r b) λ_ _ _ ⟨f,m,l,k,j⟩=>⟨f,m,i _ _ l,k,j⟩
def Qok{x y}{s}(h:A P base nt w0 x (λe c=>match e with | .normal=>A P base nt w0 y Q c|e=>Q e c) s):A P base nt w0 (.seq x y) Q s:=by
 intro Z z k a w r b;refine wp_seq (wp_mono (h Z z k a w r b) λe n j m=>?_);obtain⟨c,i,g,f,d⟩:=m;cases e with
 | normal=>exact g Z z i n j f d
 | exit id=>exact⟨c,i,g,f,d⟩
 | goto l=>exact⟨c,i,g,f,d⟩
 | ret=>exact⟨c,i,g,f,d⟩
 | panic o=>exact⟨c,i,g,f,d⟩
 | outgrown=>exact⟨c,i,g,f,d⟩
def Qol{n}{c}{s}(h:A P base nt w0 c (λe d=>match e with | .exit j=>if j=n then Q .normal d else Q (.exit j) d|e=>Q e d) s):A P base nt w0 (.block n c) Q s:=by
 intro Z z o a w r b;refine wp_block (wp_mono (h Z z o a w r b) λe u q p=>?_);obtain⟨d,k,f,i,g⟩:=p;cases e with
 | exit j=>
  simp only[Exit.inBlock];dsimp only at f;split;rename_i m;rw[Qd m]at f;exact⟨d,k,f,i,g⟩;rename_i m;rw[Qc m]at f;exact⟨d,k,f,i,g⟩
 | normal=>exact⟨d,k,f,i,g⟩
 | goto l=>exact⟨d,k,f,i,g⟩
 | ret=>exact⟨d,k,f,i,g⟩
 | panic t=>exact⟨d,k,f,i,g⟩
 | outgrown=>exact⟨d,k,f,i,g⟩
def Qom{c}{s}(h:A P base nt w0 c (λe d=>match e with | .goto _=>False|e=>Q e d) s):A P base nt w0 (.scope c) Q s:=by
 intro Z z m a w r b;refine wp_scope_straight (wp_mono (h Z z m a w r b) λe q o n=>?_);obtain⟨d,k,f,i,g⟩:=n;cases e with
 | goto l=>exact f.elim
 | normal=>exact⟨d,k,f,i,g⟩
 | exit j=>exact⟨d,k,f,i,g⟩
 | ret=>exact⟨d,k,f,i,g⟩
 | panic p=>exact⟨d,k,f,i,g⟩
 | outgrown=>exact⟨d,k,f,i,g⟩
def Qon{c}{k}{s}(h:Qz P base nt w0 Q (.code c::.inScope::k) .normal s):Qz P base nt w0 Q (.code (.scope c)::k) .normal s:=by
 simp only[Qz]at h ⊢;refine Qom (h.mono λe b a=>?_);cases e<;>exact a
def qA{a b}{k}{s}(h:Qz P base nt w0 Q (.code a::.code b::k) .normal s):Qz P base nt w0 Q (.code (.seq a b)::k) .normal s:=by
 simp only[Qz]at h ⊢;refine Qok (h.mono λe d c=>?_);cases e<;>exact c
def Qoo{a}{c}{k}{s}(h:Qz P base nt w0 Q (.code c::.inBlock a::k) .normal s):Qz P base nt w0 Q (.code (.block a c)::k) .normal s:=by
 simp only[Qz]at h ⊢;refine Qol (h.mono λe d b=>?_);cases e<;>exact b
def Qop{c}{x y}{k}{s:St}{t}(h:Qs s.fr c=.raw (.bool t))(g:t=true->Qz P base nt w0 Q (.code x::k) .normal s)(f:t=false->Qz P base nt w0 Q (.code y::k) .normal s):
  Qz P base nt w0 Q (.code (.cond c x y)::k) .normal s:=by
 simp only[Qz]at g f ⊢;intro Z z d a w r b;have e:=r.eval c;rw[h]at e;have:=Ju e;cases t;exact wp_cond_false this (f rfl Z z d a w r b);exact wp_cond_true this (g rfl Z z d a w r b)
def Si{d}:∀{k b:List Item} {s:St},jD d k=some b->Qz P base nt w0 Q b .normal s->Qz P base nt w0 Q k (.exit d) s
 | [],b,s,h,_=>by simp[jD]at h
 | .code c::k,b,s,h,a=>by simp only[jD]at h;simp only[Qz];exact Si h a
 | .ops c::k,b,s,h,a=>by simp only[jD]at h;simp only[Qz];exact Si h a
 | .inScope::k,b,s,h,a=>by simp only[jD]at h;simp only[Qz];exact Si h a
 | .inBlock j::k,b,s,h,a=>by
  simp only[jD]at h;simp only[Qz];by_cases e:d=j;subst e;simp at h;subst h;rw[Qd rfl];exact a;have:Nat.beq d j=false:=by rw[<- Ya,Wo];exact e
  rw[this]at h;rw[Qc e];exact Si h a
def Sj{b}:∀{k:List Item} {s:St},jD b k=none->Q (.exit b) s->Qz P base nt w0 Q k (.exit b) s
 | [],s,_,a=>a
 | .code c::k,s,h,a=>by simp only[jD]at h;simp only[Qz];exact Sj h a
 | .ops c::k,s,h,a=>by simp only[jD]at h;simp only[Qz];exact Sj h a
 | .inScope::k,s,h,a=>by simp only[jD]at h;simp only[Qz];exact Sj h a
 | .inBlock j::k,s,h,a=>by
  simp only[jD]at h;simp only[Qz];by_cases d:b=j;subst d;simp at h;have:Nat.beq b j=false:=by rw[<- Ya,Wo];exact d
  rw[this]at h;rw[Qc d];exact Sj h a
def Sk:∀{k:List Item} {s:St},Q .ret s->Qz P base nt w0 Q k .ret s
 | [],_,a=>a
 | .code _::_,_,a=>by simp only[Qz];exact Sk a
 | .ops _::_,_,a=>by simp only[Qz];exact Sk a
 | .inBlock _::_,_,a=>by simp only[Qz];exact Sk a
 | .inScope::_,_,a=>by simp only[Qz];exact Sk a
def kF{t}(h:Zn nt (some t)=true):t<nt:=by simpa[Zn,wT] using h
def Rel.skip{s:St}{b}{a:Act}{w}(r:Rel Z base nt s b a w){t}(c:Zn nt t=true):Rel Z base nt ⟨Zb s.fr t (.raw Go.undef),s.h⟩ b (a.put t Go.undef) w:=by
 cases t with
 | none=>exact r
 | some t=>exact r.to (Tr.ext r.o λ_ _=>rfl) r.o (kF c) (.cl _ _ (.raw _))
def ou{o:Oper}{c}{s:St}{d}(h:Ww P base nt o s d)(f:Zn nt o.dst=true)(i:AG P base nt w0 c Q ⟨Zb s.fr o.dst d,s.h⟩):AG P base nt w0 ((o,none)::c) Q s:=by
 intro Z z e a w r b;obtain⟨v,g,k⟩:=h Z e a w r;simp only[YY,Xq,Vu];unfold Oper.wp;rw[k w λ_ _=>rfl];simp only[Oper.upon_value];refine i Z z e _ w ?_ b;cases j:o.dst with
 | none=>exact r
 | some t=>rw[j]at f;exact r.to (Tr.ext r.o λ_ _=>rfl) r.o (kF f) g
def cW(C:base<=w0.w.heap.size){o:Oper}{c}{s:St}{j}{d}(h:jz P base nt o s j d)(l:Zn nt o.dst=true)(m:AG P base nt w0 c Q ⟨Zb s.fr o.dst d,j⟩):AG P base nt w0 ((o,none)::c) Q s:=by
 intro Z z q a w r b;obtain⟨v,i,k,e,g,p,x,n,_⟩:=h Z q a w r (JY C b.1.size);have f:∀u,u=v->Rel Z base nt ⟨Zb s.fr o.dst d,j⟩ k (a.put o.dst u) i:=by
  rintro u rfl;cases B:o.dst with
  | none=>exact r.Ad g p u
  | some t=>rw[B]at l;exact r.to g p (kF l) x
 simp only[YY,Xq,Vu];unfold Oper.wp;rcases e with e|⟨e,y⟩;rw[e];simp only[Oper.upon_value];exact m Z z k _ i (f v rfl) (b.step g n);rw[e];simp only[Oper.upon_skip];exact m Z z k _ i (f _ y.symm) (b.step g n)
def ov{a:Array Value}{t}{b}(h:a.getD t Go.undef=.bool b):NX a t=some b:=by
 unfold NX;rw[x5]at h;cases c:a[t]? with
 | none=>rw[c]at h;simp[Go.undef]at h
 | some v=>rw[c]at h;simp at h;rw[h]
def ox{a:Array Value}{t}{b}(h:a.getD t Go.undef=.tuple b):NX a t=none:=by
 unfold NX;rw[x5]at h;cases c:a[t]? with
 | none=>rfl
 | some v=>rw[c]at h;simp at h;rw[h]
def Rel.tell{s:St}{b}{a:Act}{w}(r:Rel Z base nt s b a w){t}{d}(c:QD Z s.h b w d (a.tmps.getD t Go.undef)):Rel Z base nt ⟨put s.fr t d,s.h⟩ b a w:=
 ⟨r.nt,r.defers,λu=>by
  rw[Eu];by_cases h:u=t;subst h;rw[Qd rfl];exact c;rw[Qc h];exact r.fr u,r.o⟩
def Qoq{o:Oper}{c}{s:St}{t}{b x}(k:get s.fr t=.raw (.bool x))(l:Zn nt o.dst=true\/x=b)
  (p:x=b->AG P base nt w0 ((o,none)::c) Q ⟨put s.fr t (.raw (.bool b)),s.h⟩) (n:x=(!b)->AG P base nt w0 c Q ⟨Zb (put s.fr t (.raw (.bool (!b)))) o.dst (.raw Go.undef),s.h⟩):AG P base nt w0 ((o,some (some t,b))::c) Q s:=by
 intro Z z e a w r h;have g:=r.fr t;rw[k]at g;have f:=Ju g;have m:=ov f;simp only[YY,Xq,m];by_cases d:x=b;have:=p d Z z e a w (r.tell (by rw[f,d];exact .cl _ _ (.raw _))) h;simp only[YY,Xq,Vu]at this;rw[Qd (by simp[d])];exact this;have i:x=(!b):=by cases x<;>cases b<;>simp_all
 rw[Qc (by simp[d])];have j:Rel Z base nt ⟨put s.fr t (.raw (.bool (!b))),s.h⟩ e a w:=r.tell (by rw[f,i];exact .cl _ _ (.raw _));exact n i Z z e _ w (j.skip (l.resolve_right d)) h
def QcO{o:Oper}{c}{s:St}{g:Option Nat × Bool}(j:g.1=none\/∃t d,g.1=some t/\get s.fr t=.raw (.tuple d))(i:Zn nt o.dst=true)(h:AG P base nt w0 c Q ⟨Zb s.fr o.dst (.raw Go.undef),s.h⟩):AG P base nt w0 ((o,some g)::c) Q s:=by
 intro Z z f a w r l;obtain⟨k,b⟩:=g;have:Xq (some (k,b)) a.tmps=false:=by
  rcases j with rfl|⟨t,d,rfl,hx⟩;rfl;have e:=r.fr t;rw[hx]at e;simp[Xq,ox (Ju e)]
 simp only[YY,this,qu,qY];exact h Z z f _ w (r.skip i) l
def kG{X}(j:qz P X)(m:base<=w0.w.heap.size):∀(n:Nat) (k:List Item) (s:St),(exec X nt n k s).holds P base nt w0 Q->Qz P base nt w0 Q k .normal s
 | 0,k,s,h=>by cases k<;>exact h
 | n+1,[],s,h=>h
 | n+1,.inBlock id::k,s,h=>by
  simp only[exec]at h;simp only[Qz];exact kG j m n k s h
 | n+1,.inScope::k,s,h=>by
  simp only[exec]at h;simp only[Qz];exact kG j m n k s h
 | n+1,.code c::k,s,h=>by
  cases c with
  | skip=>simp only[exec]at h;have:=kG j m n k s h;simp only[Qz];exact λZ z q a w r b=>wp_skip ⟨s,q,this,r,b⟩
  | label l=>simp only[exec]at h;have:=kG j m n k s h;simp only[Qz];exact λZ z q a w r b=>wp_label ⟨s,q,this,r,b⟩
  | seq x y=>simp only[exec]at h;exact qA (kG j m n _ s h)
  | block id c=>simp only[exec]at h;exact Qoo (kG j m n _ s h)
  | cond c x y=>
   simp only[exec]at h;split at h;rename_i b J;exact Qop J (λe=>kG j m n _ s (h.1 e)) (λe=>kG j m n _ s (h.2 e));exact h.elim
  | exit id=>
   simp only[exec]at h;simp only[Qz];split at h;rename_i H C;have:=Si C (kG j m n H s h);exact λZ z q a w r b=>wp_exit ⟨s,q,this,r,b⟩;rename_i C;have:=Sj (P:=P) (base:=base) (nt:=nt) (w0:=w0) C h;exact λZ z q a w r b=>wp_exit ⟨s,q,this,r,b⟩
  | ret=>
   simp only[exec]at h;simp only[Qz];exact λZ z q a w r b=>wp_ret ⟨s,q,Sk h,r,b⟩
  | region id M L=>
   simp only[exec]at h;cases L;have:=kG j m n _ s h;simp only[Qz]at this ⊢;exact λZ z q a w r b=>Qoj (this Z z q a w r b);exact h
  | loop c=>exact h
  | rangeFunc f O a b=>exact h
  | scope b=>simp only[exec]at h;exact Qon (kG j m n _ s h)
  | goto l=>exact h
  | refuse w=>exact h
 | n+1,.ops []::k,s,h=>by
  simp only[exec]at h;simp only[Qz];have:=kG j m n k s h;exact λZ z q a w r b=>⟨s,q,this,r,b⟩
 | n+1,.ops ((o,g)::r)::k,s,h=>by
  have u:∀v,Zn nt o.dst=true\/True->(exec X nt n (.ops r::k) v).holds P base nt w0 Q->AG P base nt w0 r (Qz P base nt w0 Q k) v:=λv _ I=>by
   have:=kG j m n (.ops r::k) v I;simpa only[Qz] using this
  cases g with
  | none=>
   simp only[exec]at h;simp only[Qz];split at h;rename_i p d B;cases i:Zn nt o.dst;rw[i]at h;exact h.elim;rw[i]at h;exact ou (QcL j B h.1) i (u _ (.inl i) h.2);split at h;rename_i p R d B;cases i:Zn nt o.dst;rw[i]at h;exact h.elim;rw[i]at h;exact cW m (QcM j B h.1) i (u _ (.inl i) h.2);simpa only[Tree.holds,Qz] using h
  | some g=>
   obtain⟨K,b⟩:=g;cases K with
   | none=>
    simp only[exec]at h;simp only[Qz];cases i:Zn nt o.dst;rw[i]at h;exact h.elim;rw[i]at h;exact QcO (.inl rfl) i (u _ (.inl i) h)
   | some t=>
    simp only[exec]at h;simp only[Qz];split at h;rename_i x hx;simp only[Tree.holds,QcN,qX,jv,ne_eq]at h;have E:=λe=>kG j m n _ _ (h.1 e);simp only[Qz]at E;refine Qoq hx ?_ E λe=>?_;by_cases F:x=b;exact .inr F;have:=h.2 F;cases i:Zn nt o.dst;rw[i]at this;exact this.elim;exact .inl rfl;have:=h.2 (by rw[e];cases b<;>simp);cases i:Zn nt o.dst;rw[i]at this;exact this.elim;rw[i]at this;exact u _ (.inl i) this;rename_i N hx;cases i:Zn nt o.dst;rw[i]at h;exact h.elim;rw[i]at h;exact QcO (.inr ⟨t,_,rfl,hx⟩) i (u _ (.inl i) h);exact h.elim
end
variable {Z:Nat->Prop}
mutual
def D.shift(k:Nat):D->D
 | .ref l g b c=>.ref (k+l) g b c
 | .ptr l g i j=>.ptr (k+l) g i j
 | .mref l g=>.mref (k+l) g
 | .clo f e a=>.clo f e (yi k a)
 | .agg a=>.agg (yi k a)
 | .tup a=>.tup (yi k a)
 | d=>d
def yi(k:Nat):List D->List D
 | []=>[]
 | c::a=>c.shift k::yi k a
end
def Ob.shift(k:Nat)(o:Ob):Ob:={ o with row:=λi=>yi k (o.row i) }
def xg(k):∀a:List D,(yi k a).length=a.length
 | []=>rfl
 | _::a=>by simp[yi,xg k a]
def GW(k):∀(a:List D) (i:Nat),i<a.length->nth (yi k a) i=(nth a i).shift k
 | [],i,h=>by simp at h
 | c::a,0,_=>by simp[yi,nth]
 | c::a,i+1,h=>by
  have:=GW k a i (by simpa using h);simpa[yi,nth] using this
def QD.join{M}{h h':List Ob}{B t:List Pl}{w}(m:B.length=h.length)(S:∀b,free M t b->free Z (B++t) b){d}{v}(r:QD M h' t w d v):
  QD Z (h++h'.map (Ob.shift h.length)) (B++t) w (d.shift h.length) v:=by
 have K:∀(l:Nat) (o:Ob),h'[l]?=some o->(h++h'.map (Ob.shift h.length))[h.length+l]?=some (o.shift h.length):=λl o e=>by
  rw[Kc ω];simp[e]
 have L:∀(l:Nat) (p:Pl),t[l]?=some p->(B++t)[h.length+l]?=some p:=λl p e=>by
  rw[Kc ω,m];simp[e]
 have V:∀(d:D) (v:Value),Cl (free M t) w d v->QD Z (h++h'.map (Ob.shift h.length)) (B++t) w (d.shift h.length) v:=by
  intro d v u;have R:=u.mono (N':=free Z (B++t)) (w':=w) (λb T _=>⟨S b T,rfl⟩);clear u;induction R with
  | raw v=>exact .cl _ _ (.raw v)
  | undef v=>exact .cl _ _ (.undef v)
  | nil a=>exact .cl _ _ (.nil a)
  | imm Q n N a y b o k U m x u s q=>exact .cl _ _ (.imm Q n N a y b o k U m x u s)
  | ip z b o k u s q=>exact .cl _ _ (.ip z b o k u s)
  | clo f J I k m s q=>exact .clo f J _ k (by rw[xg];exact m) (λi c=>by rw[xg]at c;rw[GW _ _ _ c];exact q i c)
  | agg I k m s q=>exact .agg _ k (by rw[xg];exact m) (λi c=>by rw[xg]at c;rw[GW _ _ _ c];exact q i c)
  | tup I k m s q=>exact .tup _ k (by rw[xg];exact m) (λi c=>by rw[xg]at c;rw[GW _ _ _ c];exact q i c)
 induction r with
 | cl d v u=>exact V d v u
 | ref l g O P o p a y E C F H x=>exact .ref _ g O P _ p a y (K l o E) (L l p C) F H x
 | ptr l g i j o p a E C F H x=>exact .ptr _ g i j _ p a (K l o E) (L l p C) F H x
 | mref l g o p b E C F H x=>exact .mref _ g _ p b (K l o E) (L l p C) F H x
 | clo f J I k m s q=>exact .clo f J _ k (by rw[xg];exact m) (λi c=>by rw[xg]at c;rw[GW _ _ _ c];exact q i c)
 | agg I k m s q=>exact .agg _ k (by rw[xg];exact m) (λi c=>by rw[xg]at c;rw[GW _ _ _ c];exact q i c)
 | tup I k m s q=>exact .tup _ k (by rw[xg];exact m) (λi c=>by rw[xg]at c;rw[GW _ _ _ c];exact q i c)
def Tr.join{a}{h h'}{d k:List Pl}{w i:World}(R:Zh Z a h d w)(j:Below w.heap.size w i)(s:∀(l b q:Nat),k[l]?=some (some (b,q))->w.heap.size<=b):
  Tr h d w (h++h') (d++k) i where
 JU:=λb r Qb=>by
  refine⟨λl q e=>?_,j.block b Qb⟩;by_cases n:l<d.length;rw[JJ n]at e;exact r l q e;rw[Kc ω]at e;have:=s _ _ _ e;omega
 obj:=λl o p g f=>⟨o,p,by rw[JJ (KA g)];exact g,by rw[JJ (Wp f)];exact f,QB _,rfl,λ_=>⟨rfl,rfl⟩⟩
 shape:=λl o t b q g v u f c el m=>⟨c,by rw[j.block b (R.lt f).1];exact m,rfl⟩
def Zh.join{C}{d}{h h'}{k m}{w s:World}(R:Zh Z d h k w)(K:d<=w.heap.size)(y:Below w.heap.size w s)(p:Zh C w.heap.size h' m s)
  (H:∀b,free C m b->free Z (k++m) b) (r:∀(l b q:Nat),m[l]?=some (some (b,q))->w.heap.size<=b):Zh Z d (h++h'.map (Ob.shift h.length)) (k++m) s:=by
 have T:=Tr.join (h':=h'.map (Ob.shift h.length)) R y r;refine⟨by simp[R.len,p.len],?_,?_,?_⟩;intro l E b q I g f;by_cases e:l<k.length<;>by_cases z:E<k.length;rw[JJ e]at g;rw[JJ z]at f;exact R.inj _ _ _ _ _ g f;rw[JJ e]at g;rw[Kc ω]at f;have:=(R.lt g).1;have:=r _ _ _ f;omega;rw[Kc ω]at g;rw[JJ z]at f;have:=(R.lt f).1;have:=r _ _ _ g;omega;rw[Kc ω]at g f;have:=p.inj _ _ _ _ _ g f;omega;intro l o c a;by_cases e:l<h.length;rw[JJ e]at c;rw[JJ (by rw[R.len];exact e)]at a;exact R.VU l o c a;rw[Kc ω]at c;rw[Kc (by rw[R.len];omega),R.len]at a;simp only[KL,VT]at c;obtain⟨n,u,rfl⟩:=c;exact p.VU _ n u a;intro l o b q c a;by_cases e:l<h.length;rw[JJ e]at c;rw[JJ (by rw[R.len];exact e)]at a;obtain⟨B,x⟩:=R.at_ l o b q c a;exact⟨B,x.to rfl rfl rfl (y.block b (R.lt a).1) (λ_ _=>rfl) λi j v _ _ t=>t.tr T⟩;rw[Kc ω]at c;rw[Kc (by rw[R.len];omega),R.len]at a;simp only[KL,VT]at c;obtain⟨n,u,rfl⟩:=c;obtain⟨B,x⟩:=p.at_ _ n b q u a;refine⟨λ_=>by have:=r _ _ _ a;omega,x.to rfl rfl rfl rfl (λi _=>xg _ _) λi j v J F t=>?_⟩;show QD Z _ _ _ (nth (yi _ (n.row i)) j) v;rw[GW _ _ _ F];exact t.join R.len H
def QM(P:Program)(f:FuncId)(F:List Ob)(c:List D)(R:D->List Ob->Prop):Prop:=
 ∀(Z:Nat->Prop) (a:Nat) (w:World) (k:List Pl) (j:List Value),a<=w.heap.size->(∀b,w.heap.size<=b->Z b)->Zh Z a F k w ->
  j.length=c.length->(∀i,i<c.length->QD Z F k w (nth c i) (Q6 j i)) ->
  Calls P f j.toArray w λe g=>∃v d h l,e=.returned v/\R d h/\Zh Z a h l g/\QD Z h l g d v/\Tr F k w h l g/\Below a w g
def QM.mono{P}{f}{F}{a}{R c}(h:QM P f F a R)(l:∀d h,R d h->c d h):QM P f F a c:=λZ b w g e r q p o n=>
 (h Z b w g e r q p o n).mono λ_ _ ⟨v,d,m,s,k,j,i⟩=>⟨v,d,m,s,k,l _ _ j,i⟩
def QI(P:Program)(f:FuncId)(a:List D)(R:D->List Ob->Prop):Prop:=QM P f [] a R
def QI.mono{P}{f}{a}{R b}(h:QI P f a R)(c:∀d h,R d h->b d h):QI P f a b:=QM.mono h c
def jE:List D->Nat->List (Nat × D)
 | [],_=>[]
 | d::r,i=>(i,d)::jE r (i+1)
def QcP:∀(a:List D) (i t:Nat),get (jE a i) t=if i<=t then nth a (t-i) else .undef
 | [],i,t=>by simp[jE,get,nth]
 | d::r,i,t=>by
  simp only[jE,get];by_cases h:i=t;subst h;simp[nth];have:Nat.beq i t=false:=by rw[<- Ya,Wo];exact h
  rw[this];simp only[zT];rw[QcP r (i+1) t];by_cases b:i+1<=t;rw[Qd b,Qd ω];obtain⟨m,rfl⟩:∃m,t=i+(m+1):=⟨t-i-1,ω⟩;rw[show i+(m+1)-(i+1)=m by omega,show i+(m+1)-i=m+1 by omega];simp[nth];rw[Qc b,Qc ω]
def EH(L:Jf)(s:St):List ResultVar->Option (Prop × List D)
 | []=>some (True,[])
 | .tmp t::r=>match EH L s r with
  | some (p,b)=>some (p,get s.fr t::b)
  | none=>none
 | .cell a ty::r=>match IF L s.h ty (get s.fr a),EH L s r with
  | some (q,d),some (p,b)=>some (q/\p,d::b)
  | _,_=>none
def one:List D->D
 | [d]=>d
 | a=>.tup a
def As(L:Jf)(a:List ResultVar)(R:D->List Ob->Prop):Exit->St->Prop
 | .normal,s | .ret,s=>match EH L s a with
  | some (p,b)=>p/\R (one b) s.h
  | none=>False
 | _,_=>False
def NZ(a:Array Value):ResultVar->Sem Value
 | .tmp t=>pure (a.getD t Go.undef)
 | .cell x t=>do loadVar t (<- asAddr (a.getD x Go.undef))
def oy(c:Func)(a):results c a=(do let b <- c.results.mapM (NZ a);pure (if h:b.size=1 then b[0] else .tuple b)):=by
 unfold results;congr 2
def oz{P}{L}(C:Z8 P L){c J}{s}{y}{a}{w}(r:Rel Z c J s y a w):∀(g:List ResultVar) (p:Prop) (f:List D),EH L s g=some (p,f)->p ->
  ∃e:List Value,e.length=f.length/\(∀i,i<f.length->QD Z s.h y w (nth f i) (Q6 e i)) /\
   (g.mapM (NZ a.tmps)).run P w=.ok e w
 | [],p,f,h,_=>by simp[EH]at h;obtain⟨_,rfl⟩:=h;exact⟨[],rfl,λi l=>by simp at l,σ⟩
 | .tmp t::g,p,f,h,m=>by
  simp only[EH]at h;split at h;rename_i q I z;simp only[Q5,Q9]at h;obtain⟨rfl,rfl⟩:=h;obtain⟨e,H,F,E⟩:=oz C r g _ _ z m;refine⟨a.tmps.getD t Go.undef::e,by simp[H],λi l=>?_,by simp[List.mapM_cons,NZ,E]⟩;cases i with
  | zero=>exact r.fr t
  | succ i=>have:=F i (by simpa using l);simpa[nth,Q6] using this
  cases h
 | .cell x t::g,p,f,h,m=>by
  simp only[EH]at h;split at h;rename_i q d S I j z;simp only[Q5,Q9]at h;obtain⟨rfl,rfl⟩:=h;obtain⟨e,H,F,E⟩:=oz C r g _ _ z m.2;have Q := Qb0 (P := P) (base := c) (nt := J) (s := s) (o := ⟨none, .load t (.tmp x), 0, "", #[], none⟩) C (t := t) (x := .tmp x) rfl j m.1;obtain⟨v,k,b⟩:=Q Z y a w r;have b:=b w (λ_ _=>rfl);refine⟨v::e,by simp[H],λi l=>?_,?_⟩;cases i with
  | zero=>exact k
  | succ i=>have:=F i (by simpa using l);simpa[nth,Q6] using this
  have hx:=r.fr x;have R:(NZ a.tmps (.cell x t)).run P w=.ok v w:=by
   simp only[execOp,Act.eval,Instr.loadAt,Sem.run_bind]at b;simp only[NZ];have O:∃n,a.tmps.getD x Go.undef=.pointer (some n):=by
    unfold IF at j;split at j;cases j;split at j;rename_i B;rw[B]at hx;obtain⟨_,_,n,k,_⟩:=Ey hx;exact⟨_,k⟩;rename_i B;rw[B]at hx;obtain⟨_,_,_,k,_⟩:=IE hx;exact⟨_,k⟩;cases j
   obtain⟨n,M⟩:=O;rw[M]at b ⊢;simp only[Instr.sureAddr,asAddr,Sem.run_bind,Sem.run_pure,Result.andThen_ok]at b ⊢;generalize (loadVar t n).run P w=N at *;cases N with
   | ok u K=>simp only[Result.andThen_ok]at b;cases b;rfl
   | halt x K=>simp only[Result.andThen_halt]at b;cases b
  simp[List.mapM_cons,R,E];cases h
def Qos{P:Program}{L}(U:Z8 P L){f}{j:Func}{c}(O:P.funcs[f]?=some j)(S:j.body=some c){F}{b:List D}{R}(hn:b.length<=j.ntmps)
  (h:∀(a:Nat) (w:World) (n:List Pl),a<=w.heap.size->n.length=F.length->A P a j.ntmps ⟨w,F,n⟩ c (As L j.results.toList R) ⟨jE b 0,F⟩):QM P f F b R:=by
 intro Z a w n o Y T H hl Q;refine calls_of_wp O S ?_;have W:Rel Z a j.ntmps ⟨jE b 0,F⟩ n { tmps:=o.toArray++Array.replicate (j.ntmps-o.toArray.size) Go.undef,defers:=[] } w:=by
  refine⟨ξ,rfl,λt=>?_,H⟩;rw[QcP];simp only[Jj,Vu,Ep];by_cases K:t<b.length;have:=Q t K;have e:(o.toArray++Array.replicate (j.ntmps-o.toArray.size) Go.undef).getD t Go.undef=Q6 o t:=by
   rw[x5,Nt ξ];simp[Q6,QW]
  rw[e];exact this;have:nth b t=.undef:=by simp[nth,QW,Ek (Nat.le_of_not_lt K)]
  rw[this];exact .cl _ _ (.undef _)
 refine wp_mono (h a w n Y H.len _ trivial n _ w W ⟨Below.refl _ _,Tr.refl _ _ _,IX.start (w0:=⟨w,F,n⟩) H T⟩) λe I m N=>?_;obtain⟨x,r,s,y,J,E,_⟩:=N;have z:(match EH L x j.results.toList with|some (p,B)=>p/\R (one B) x.h|none=>False)->I.defers=[]/\∃v,(results j I.tmps).run P m=.ok v m /\
   ∃v1 d h r,Ending.returned v=.returned v1/\R d h/\Zh Z a h r m/\QD Z h r m d v1/\Tr F n w h r m/\Below a w m:=by
  intro k;split at k;rename_i p B BC;obtain⟨C,g,u,V⟩:=oz U y _ _ _ BC k.1;have q:(j.results.mapM (NZ I.tmps)).run P m=.ok C.toArray m:=by
   rw[Array.mapM_eq_mapM_toList];simp only[Sem.run_map,V,Result.andThen_ok]
  refine⟨y.defers,?_⟩;have JA:C.toArray.size=C.length:=σ;match B,C,g,u,q,k with
  | [d],[v],_,u,q,k=>
   refine⟨v,?_,v,d,x.h,r,rfl,k.2,y.o,u 0 σ,E,J⟩;rw[oy];simp only[Sem.run_bind];rw[q];simp
  | [],[],_,u,q,k=>
   refine⟨.tuple #[],?_,_,_,x.h,r,rfl,k.2,y.o,.tup [] [] rfl (λi M=>by simp at M),E,J⟩;rw[oy];simp only[Sem.run_bind];rw[q];simp
  | d::d2::B,v::v2::o,g,u,q,k=>
   refine⟨.tuple (v::v2::o).toArray,?_,_,_,x.h,r,rfl,k.2,y.o,.tup _ _ g u,E,J⟩;rw[oy];simp only[Sem.run_bind];rw[q];simp
  | [],_::_,g,_,_,_=>simp at g
  | [_],[],g,_,_,_=>simp at g
  | [_],_::_::_,g,_,_,_=>simp at g
  | _::_::_,[],g,_,_,_=>simp at g
  | _::_::_,[_],g,_,_,_=>simp at g
  exact k.elim
 cases e with
 | normal=>exact z s
 | ret=>exact z s
 | exit id=>exact s.elim
 | goto l=>exact s.elim
 | panic ch=>exact s.elim
 | outgrown=>exact s.elim
end Go.Fg
namespace Go.Fg
open Go.RowKit (Below)
variable {Z:Nat->Prop}
def D.XV:D->Bool
 | .raw _ | .nil | .imm _ _ _ | .ip _=>true
 | _=>false
def GX{h}{a}{w}{d:D}{v}(r:QD Z h a w d v)(b:d.XV=true):Cl (free Z a) w d v:=by
 cases r with
 | cl _ _ c=>exact c
 | _=>cases b
def YD(f:D->Option (Prop × D)):List D->Option (Prop × List D)
 | []=>some (True,[])
 | d::r=>match f d,YD f r with
  | some (p,c),some (q,a)=>some (p/\q,c::a)
  | _,_=>none
def Wd(h:List Ob):Nat->D->Option (Prop × D)
 | 0,.raw v=>some (True,.raw v)
 | 0,_=>none
 | n+1,d=>match d with
  | .raw v=>some (True,.raw v)
  | .nil=>some (True,.nil)
  | .imm z n r=>some (True,.imm z n r)
  | .ip c=>some (True,.ip c)
  | .ref l g a b=>match h[l]? with
   | some o=>some (g=o.gen/\a+b<=o.n/\∀i,i<b->(o.row (a+i)).all D.XV=true,.imm o.sz b λi=>o.row (a+i))
   | none=>none
  | .ptr l g i j=>match h[l]? with
   | some o=>match YD (Wd h n) ((o.row i).drop j) with
    | some (p,k)=>some (g=o.gen/\i<o.n/\j<=o.sz/\p,.ip k)
    | none=>none
   | none=>none
  | .agg k=>match YD (Wd h n) k with
   | some (p,e)=>some (p,.agg e)
   | none=>none
  | .clo f m k=>match YD (Wd h n) k with
   | some (p,e)=>some (p,.clo f m e)
   | none=>none
  | _=>none
def Sl{f:D->Option (Prop × D)}{C:D->Value->Prop}{r:D->Value->Prop}(n:∀d v p c,r d v->f d=some (p,c)->p->C c v):∀(b:List D) (e:List Value) (p:Prop) (a:List D),e.length=b.length->(∀i,i<b.length->r (nth b i) (Q6 e i)) ->
  YD f b=some (p,a)->p->a.length=b.length/\∀i,i<b.length->C (nth a i) (Q6 e i)
 | [],e,p,a,l,j,h,k=>by simp[YD]at h;obtain⟨_,rfl⟩:=h;exact⟨rfl,λi g=>by simp at g⟩
 | d::b,[],p,a,l,j,h,k=>by simp at l
 | d::b,v::e,p,a,l,j,h,k=>by
  simp only[YD]at h;split at h;rename_i o c q m w u;simp only[Q5,Q9]at h;obtain⟨rfl,rfl⟩:=h;obtain⟨t,s⟩:=Sl n b e q m (by simpa using l) (λi g=>by have:=j (i+1) (by simpa using g);simpa[nth,Q6] using this) u k.2;refine⟨by simp[t],λi g=>?_⟩;cases i with
  | zero=>exact n d v o c (j 0 σ) w k.1
  | succ i=>have:=s i (by simpa using g);simpa[nth,Q6] using this
  cases h
def cY{N}{a0}{h}{F:List Pl}{w}(R:Zh Z a0 h F w)(cZ:∀b,free Z F b->N b)(V:∀l b q:Nat,F[l]?=some (some (b,q))->N b):∀(n:Nat) (d:D) (v:Value) (p:Prop) (c:D),QD Z h F w d v->Wd h n d=some (p,c)->p->Cl N w c v
 | 0,d,v,p,c,r,e,x=>by
  cases d<;>simp only[Wd,reduceCtorEq,Q5,Q9]at e;obtain⟨_,rfl⟩:=e;rw[Ju r];exact .raw _
 | n+1,d,v,p,c,r,e,x=>by
  have y:∀{d:D} {v:Value},Cl (free Z F) w d v->Cl N w d v:=λh=>h.mono λb hb _=>⟨cZ b hb,rfl⟩;cases d with
  | raw u=>simp only[Wd,Q5,Q9]at e;obtain⟨_,rfl⟩:=e;exact y (GX r rfl)
  | nil=>simp only[Wd,Q5,Q9]at e;obtain⟨_,rfl⟩:=e;exact y (GX r rfl)
  | imm z k a1=>simp only[Wd,Q5,Q9]at e;obtain⟨_,rfl⟩:=e;exact y (GX r rfl)
  | ip J=>simp only[Wd,Q5,Q9]at e;obtain⟨_,rfl⟩:=e;exact y (GX r rfl)
  | undef=>simp[Wd]at e
  | tup J=>simp[Wd]at e
  | ref l g B K=>
   simp only[Wd]at e;split at e;rename_i o P;simp only[Q5,Q9]at e;obtain⟨rfl,rfl⟩:=e;obtain⟨hg,hn,KB⟩:=x;obtain⟨a,a2,t,S⟩:=nI R r (p:=g=o.gen/\B+K<=o.n) (n:=K) (sz:=o.sz) (rows:=λk=>o.row (B+k)) (by simp[R4,P]) ⟨hg,hn⟩;have CV:∀i j,i<K->j<o.sz->(nth (o.row (B+i)) j).XV=true:=λi j m I=>by
    have h1:=KB i m;rw[qV]at h1;have h2:j<(o.row (B+i)).length:=by rw[S.len i m];exact I
    refine h1 _ ?_;simp only[nth,QW,QJ h2,KW];exact Xn h2
   obtain⟨o',p',ad,vQ,hv,U,Z3,ZI,ko,KN⟩:=Ex r;rw[P]at U;cases U;have N3:=S.v;rw[hv]at N3;simp only[Value.slice.injEq,vM]at N3;obtain⟨rfl,rfl⟩:=N3;rw[hv];rcases KN hg with ⟨h1,h2⟩|⟨b,q,c,el,Wv,vP,hb,hc,Q⟩;subst h1;exact .imm _ _ _ _ _ 0 0 (λ_ _=>Go.undef) (λh=>ω) ω (λi m=>ω) (λi j m=>ω) (λi j m=>ω);refine .imm _ _ _ _ _ b (q+B*o.sz) t (λ_=>vP) Q S.len (λi j m I=>⟨V l b q (by rw[Z3,Wv]),?_⟩) (λi j m I=>?_);obtain⟨b1,q1,hh,Al⟩:=S.cell i j m I;rw[vP]at hh;simp only[Q5,Addr.mk.injEq,and_true]at hh;obtain⟨rfl,rfl⟩:=hh;exact Al;exact y (GX (S.rel i j m I) (CV i j m I));cases e
  | mref l g=>simp[Wd]at e
  | ptr l g i j=>
   simp only[Wd]at e;split at e;rename_i o P;split at e;rename_i q J W;simp only[Q5,Q9]at e;obtain⟨rfl,rfl⟩:=e;obtain⟨hg,m,I,hq⟩:=x;obtain⟨o',p',ad,hv,U,Z3,ZI,ko,KN⟩:=Ey r;rw[P]at U;cases U;obtain⟨b,M,rfl,rfl⟩:=KN hg;obtain⟨Q4,xx⟩:=R.at_ l o b M P Z3;obtain⟨c,el,hb,II,J3,ZW⟩:=xx.cells ZI;have E:((o.row i).drop j).length=o.sz-j:=by rw[aS,J3 i m]
   let t:List Value:=(List.range (o.sz-j)).map λk=>(c[M+(i*o.sz+(j+k))]?).getD Go.undef;have Y:∀k,k<o.sz-j->Q6 t k=(c[M+(i*o.sz+(j+k))]?).getD Go.undef:=λk H=>by simp[t,Q6,QW,H]
   obtain⟨k1,O⟩:=Sl (r:=λd v=>QD Z h F w d v) (C:=λd v=>Cl N w d v) (λd v p c s T x=>cY R cZ V n d v p c s T x) _ t q J (by simp[t,E]) (λk H=>by
    rw[E]at H;obtain⟨u,hu,s⟩:=ZW i (j+k) m ω;rw[GC,Y k H,hu];exact s) W hq
   rw[hv];rw[E]at k1 O;refine .ip _ b _ (λk=>Q6 t k) (λk H=>⟨V l b M Z3,?_⟩) (λk H=>O k ω);rw[k1]at H;obtain⟨u,hu,s⟩:=ZW i (j+k) m ω;rw[cell_of_row w b _ c el (0,0) hb,Y k H,hu,KW,show M+(i*o.sz+j)+k=M+(i*o.sz+(j+k)) by omega,hu];cases e;cases e
  | agg J=>
   simp only[Wd]at e;split at e;rename_i q L W;simp only[Q5,Q9]at e;obtain⟨rfl,rfl⟩:=e;obtain⟨t,rfl,Q,s⟩:=ID r;obtain⟨k1,O⟩:=Sl (r:=λd v=>QD Z h F w d v) (C:=λd v=>Cl N w d v) (λd v p c s T x=>cY R cZ V n d v p c s T x) J t _ L Q s W x;exact .agg _ _ ω (λi m=>O i ω);cases e
  | clo f nf J=>
   simp only[Wd]at e;split at e;rename_i q L W;simp only[Q5,Q9]at e;obtain⟨rfl,rfl⟩:=e;obtain⟨t,rfl,Q,s⟩:=nj r;obtain⟨k1,O⟩:=Sl (r:=λd v=>QD Z h F w d v) (C:=λd v=>Cl N w d v) (λd v p c s T x=>cY R cZ V n d v p c s T x) J t _ L Q s W x;exact .clo _ _ _ _ ω (λi m=>O i ω);cases e
def Qou{a}{h}{b}{w}(R:Zh Z a h b w)(n)(d)(v)(p:Prop)(c)(r:QD Z h b w d v)(e:Wd h n d=some (p,c))(f:p):Cl (λ_=>True) w c v:=
 cY R (λ_ _=>trivial) (λ_ _ _ _=>trivial) n d v p c r e f
mutual
def D.flat:D->Bool
 | .raw _ | .nil | .ref _ _ _ _ | .ptr _ _ _ _ | .mref _ _=>true
 | .agg a=>EI a
 | .tup a=>EI a
 | .clo _ _ a=>EI a
 | _=>false
def EI:List D->Bool
 | []=>true
 | d::r=>d.flat&&EI r
end
def GY:∀{b:List D},EI b=true->∀i,i<b.length->(nth b i).flat=true
 | [],_,i,h=>by simp at h
 | d::r,a,i,h=>by
  simp only[EI,ZE]at a;cases i with
  | zero=>exact a.1
  | succ i=>have:=GY a.2 i (by simpa using h);simpa[nth] using this
def QD.db{Z'}{h}{B}{w}{d:D}{v}(r:QD Z h B w d v)(e:d.flat=true):QD Z' h B w d v:=by
 induction r with
 | cl d v E=>
  have:∀{d:D} {v:Value},Cl (free Z B) w d v->d.flat=true->QD Z' h B w d v:=by
   intro d v E;induction E with
   | raw v=>exact λ_=>.cl _ _ (.raw v)
   | undef v=>intro e;simp[D.flat]at e
   | nil a=>exact λ_=>.cl _ _ (.nil a)
   | imm=>intro e;simp[D.flat]at e
   | ip=>intro e;simp[D.flat]at e
   | clo f C q k n t m=>exact λe=>.clo f C q k n λi c=>m i c (GY (by simpa[D.flat] using e) i c)
   | agg q k n t m=>exact λe=>.agg q k n λi c=>m i c (GY (by simpa[D.flat] using e) i c)
   | tup q k n t m=>exact λe=>.tup q k n λi c=>m i c (GY (by simpa[D.flat] using e) i c)
  exact this E e
 | ref l g F H o p a I x u y z s=>exact .ref l g F H o p a I x u y z s
 | ptr l g i j o p a x u y z s=>exact .ptr l g i j o p a x u y z s
 | mref l g o p b x u y z s=>exact .mref l g o p b x u y z s
 | clo f C q k n t m=>exact .clo f C q k n λi c=>m i c (GY (by simpa[D.flat] using e) i c)
 | agg q k n t m=>exact .agg q k n λi c=>m i c (GY (by simpa[D.flat] using e) i c)
 | tup q k n t m=>exact .tup q k n λi c=>m i c (GY (by simpa[D.flat] using e) i c)
def Ob.flat(o:Ob):Prop:=∀i,i<o.n->EI (o.row i)=true
def Zh.db{Z'}{a}{h}{c}{w}(R:Zh Z a h c w)(m:∀o∈h,o.flat):Zh Z' a h c w where
 len:=R.len
 inj:=R.inj
 VU:=R.VU
 at_:=λl o b q d f=>by
  obtain⟨n,x⟩:=R.at_ l o b q d f;exact⟨n,x.to rfl rfl rfl rfl (λ_ _=>rfl) λi j v k g e=>e.db (GY (m o (NB d) i k) j g)⟩
def Qm(P:Program)(f:FuncId):Prop:=∀(a:Array Value) (w:World),(callFunc f a).run P w=.ok (.enter f a) w
def JB:D->Option (FuncId × Nat × List D)
 | .raw (.func (.func f) ⟨[]⟩ ⟨[]⟩)=>some (f,0,[])
 | .clo f a b=>some (f,a,b)
 | _=>none
section
variable {P:Program}{base nt:Nat}{w0:Start}{Q:Exit->St->Prop}
def Sn{h}{g}{w}{d}{v}{f}{c}{b}(r:QD Z h g w d v)(e:JB d=some (f,c,b)):
  ∃a:List Value,v=.func (.func f) (a.take c).toArray (a.drop c).toArray/\a.length=b.length/\∀i,i<b.length->QD Z h g w (nth b i) (Q6 a i):=by
 unfold JB at e;split at e;simp only[Q5,Q9]at e;obtain⟨rfl,rfl,rfl⟩:=e;exact⟨[],Ju r,rfl,λi j=>by simp at j⟩;simp only[Q5,Q9]at e;obtain⟨rfl,rfl,rfl⟩:=e;exact nj r;cases e
def Z5{b:Type}(c:Nat)(d a:List b):List b:=d.take c++(a++d.drop c)
def Sq{r:D->Value->Prop}{nf:Nat}{a args:List D}{b us:List Value}(f:b.length=a.length)(e:∀i,i<a.length->r (nth a i) (Q6 b i))(d:us.length=args.length)(g:∀i,i<args.length->r (nth args i) (Q6 us i)):
  (Z5 nf b us).length=(Z5 nf a args).length/\∀i,i<(Z5 nf a args).length->r (nth (Z5 nf a args) i) (Q6 (Z5 nf b us) i):=by
 refine⟨by simp[Z5,f,d],λi j=>?_⟩;have h:(b.take nf).length=(a.take nf).length:=by simp[f]
 simp only[Z5,nth,Q6,QW];by_cases c:i<(a.take nf).length;rw[JJ (l₁:=a.take nf) c,JJ (l₁:=b.take nf) ω];have c2:i<nf/\i<a.length:=by simp at c;omega
 rw[XB,XB,Qd c2.1,Qd c2.1];exact e i c2.2;rw[Kc (l₁:=a.take nf) ω,Kc (l₁:=b.take nf) ω,h];by_cases c2:i-(a.take nf).length<args.length;rw[JJ (l₁:=args) c2,JJ (l₁:=us) ω];exact g _ c2;rw[Kc (l₁:=args) ω,Kc (l₁:=us) ω,d];rw[Gr,Gr];refine e _ ?_;simp only[Z5,Zk,aU,aS]at j c c2 ⊢;omega
def Sr{o:Oper}{a:Act}{x}{b}{j:Array TypeId}{f}{d:Nat}{c:List Value}(i:Qm P f)(h:o.op=.call ⟨.value x,b,j⟩)(g:a.eval x=.func (.func f) (c.take d).toArray (c.drop d).toArray)(w):
  (execOp a.eval o).run P w=.ok (.enter f (Z5 d c (b.toList.map a.eval)).toArray) w:=by
 have e:(Z5 d c (b.toList.map a.eval)).toArray=(c.take d).toArray++b.map a.eval++(c.drop d).toArray:=by apply Array.ext';simp[Z5]
 rw[e];simp[execOp,h,resolve,g,Deferred.ofValue,invoke,i _ w]
def QcR(Q4:base<=w0.w.heap.size){o:Oper}{s}{x}{g}{Zo:Array TypeId}{f}{u}{U}(hf:Qm P f)(ho:o.op=.call ⟨.value x,g,Zo⟩)
  (hx:JB (Qs s.fr x)=some (f,u,U)) {n:Nat} {p:Prop} {H:List D} (JI:YD (Wd s.h n) (Z5 u U (g.toList.map (Qs s.fr)))=some (p,H)) (B:p) {R:D->List Ob->Prop} (hF:QI P f H R)
  (IY:∀d h,R d h->d.flat=true/\∀o∈h,o.flat) (M:Zn nt o.dst=true) (k:List Pl) (a:Act) (w:World) (r:Rel Z base nt s k a w) (b:Va Z base w0 s.h k w) (Q':Exit->Act->World->Prop) :
  o.wp P a w (λO m=>Ext w m/\∃d h j,R d h/\Rel Z base nt ⟨Zb s.fr o.dst (d.shift s.h.length),s.h++h.map (Ob.shift s.h.length)⟩ j O m/\Va Z base w0 (s.h++h.map (Ob.shift s.h.length)) j m/\Tr s.h k w (s.h++h.map (Ob.shift s.h.length)) j m/\∃v,O=a.put o.dst v) Q':=by
 obtain⟨K,hv,Y,EJ⟩:=Sn (r.eval x) hx;have L:base<=w.heap.size:=JY Q4 b.1.size;obtain⟨q1,q2⟩:=Sq (r:=λd v=>QD Z s.h k w d v) (nf:=u) Y EJ (us:=g.toList.map a.eval) (args:=g.toList.map (Qs s.fr)) σ (λi y=>by
  have Jl:i<g.toList.length:=by simpa using y
  simp only[nth,Q6,QW,KL];rw[QJ Jl];exact r.eval _)
 obtain⟨k1,k2⟩:=Sl (r:=λd v=>QD Z s.h k w d v) (C:=λd v=>Cl (λ_=>True) w d v) (λd v p c hr E B=>Qou r.o n d v p c hr E B) _ (Z5 u K (g.toList.map a.eval)) p H q1 q2 JI B;have hc:=hF (λ_=>True) w.heap.size w [] (Z5 u K (g.toList.map a.eval)) (QB _) (λ_ _=>trivial) ⟨rfl,λl l' b q q' e=>by simp at e,λl o e=>by simp at e,λl o b q e=>by simp at e⟩ ω (λi y=>.cl _ _ ((k2 i ω).mono λb _ _=>⟨⟨trivial,λl q e=>by simp at e⟩,rfl⟩));unfold Oper.wp;rw[Sr hf ho hv w];simp only[Oper.upon_enter];refine hc.mono λe m E=>?_;obtain⟨v,d,F,j,rfl,N,hO,hV,IZ,z⟩:=E;obtain⟨f1,f2⟩:=IY d F N;have J:=hO.db (Z':=λ_=>False) f2;have I:=hV.db (Z':=λ_=>False) f1;have S:∀b,free (λ_=>False) j b->free Z (k++j) b:=λb hb=>hb.1.elim;have V:∀(l b q:Nat),j[l]?=some (some (b,q))->w.heap.size<=b:=λl b q e=>by
  rcases wU b w.heap.size with Qb|WS;exact absurd e ((IZ.JU b (λl q e=>by simp at e) Qb).1 l q);exact WS
 have T:=Tr.join (h':=F.map (Ob.shift s.h.length)) r.o z V;have W:=Zh.join r.o L z J S V;refine⟨λi y=>z.block i y,d,F,k++j,N,?_,b.step T (z.mono L),T,v,rfl⟩;cases hd:o.dst with
 | none=>exact r.Ad T W v
 | some t=>rw[hd]at M;exact r.to T W (kF M) (I.join r.o.len S)
def Qox(K:base<=w0.w.heap.size){o:Oper}{c}{s}{x}{e}{I:Array TypeId}{f}{g}{j}(B:Qm P f)(v:o.op=.call ⟨.value x,e,I⟩)
  (q:JB (Qs s.fr x)=some (f,g,j)) {n:Nat} {p:Prop} {i:List D} (L:YD (Wd s.h n) (Z5 g j (e.toList.map (Qs s.fr)))=some (p,i)) (u:p) {R:D->List Ob->Prop} (E:QI P f i R)
  (M:∀d h,R d h->d.flat=true/\∀o∈h,o.flat) (t:Zn nt o.dst=true) (y:∀d h,R d h->AG P base nt w0 c Q ⟨Zb s.fr o.dst (d.shift s.h.length),s.h++h.map (Ob.shift s.h.length)⟩):AG P base nt w0 ((o,none)::c) Q s:=by
 intro Z z m a w r b;simp only[YY,Xq,Vu];exact Oper.wp_mono (λH k ⟨_,d,h,J,C,l,F,_⟩=>y d h C Z z J H k l F) (QcR K B v q L u E M t m a w r b _)
def Dc(m:Nat)(h:List Ob)(c:List Pl)(e:List Ob)(d:List Pl):Prop:=
 (∀b,Xp c b->Xp d b)/\∀(l:Nat) (o:Ob) (p:Pl),l<m->h[l]?=some o->c[l]?=some p->∃a,e[l]?=some a/\d[l]?=some p/\a.gen=o.gen/\a.sz=o.sz/\a.kd.ty=o.kd.ty
def Dc.refl(m)(h)(a):Dc m h a h a:=⟨λ_ h=>h,λ_ o p _ c b=>⟨o,c,b,rfl,rfl,rfl⟩⟩
def Dc.trans{m}{h h' e}{c f g}(a:Dc m h c h' f)(b:Dc m h' f e g):Dc m h c e g:=
 ⟨λx hx=>b.1 x (a.1 x hx),λl o p d u t=>by
  obtain⟨j,B,z,y,w,v⟩:=a.2 l o p d u t;obtain⟨i,s,r,q,n,k⟩:=b.2 l j p d B z;exact⟨i,s,r,by rw[q,y],by rw[n,w],by rw[k,v]⟩⟩
def Tr.keep{F h H:List Ob}{d s I}{w0 w}{m}(T:Tr F d w0 h s w)(B:F.length<=m)(K:Dc m h s H I):Tr F d w0 H I w where
 JU:=λb k Qb=>⟨K.1 b (T.JU b k Qb).1,(T.JU b k Qb).2⟩
 obj:=λl o p a j=>by
  obtain⟨g,f,n,r,L,E,C⟩:=T.obj l o p a j;obtain⟨t,i,z,J,v,u⟩:=K.2 l g f (vJ (KA a) B) n r;exact⟨t,f,i,z,ω,by rw[u,E],λe=>by obtain⟨x,y⟩:=C ω;exact⟨by rw[v,x],y⟩⟩
 shape:=λl o O b q a M N j c el k=>by
  obtain⟨g,f,n,r,L,E,C⟩:=T.obj l o _ a j;obtain⟨t,i,z,J,v,u⟩:=K.2 l g f (vJ (KA a) B) n r;rw[M]at i;cases i;exact T.shape l o g b q a n ω j c el k
def Wk(m:Nat)(s b:St):Prop:=∀(Z:Nat->Prop) (base nt:Nat) c a w,Rel Z base nt s c a w->∃d,Rel Z base nt b d a w/\Dc m s.h c b.h d
def Wk.refl{m}(s):Wk m s s:=λ_ _ _ a _ _ r=>⟨a,r,.refl _ _ _⟩
def Wk.trans{m}{s d e}(h:Wk m s d)(k:Wk m d e):Wk m s e:=λZ b n g a w r=>
 let ⟨i,f,K⟩:=h Z b n g a w r;let ⟨l,c,j⟩:=k Z b n i a w f
 ⟨l,c,K.trans j⟩
def Va.keep{h f}{a g}{w}(b:Va Z base w0 h a w)(K:Dc w0.F.length h a f g):Va Z base w0 f g w:=⟨b.1,b.2.1.keep (QB _) K,b.2.2.new,λl c q e n=>by
 by_cases d:Xp a c;exact absurd e (K.1 c d l q);obtain⟨j,m⟩:=Nu.1 d;obtain⟨i,k⟩:=Nu.1 m;exact b.2.2.own j c i (Classical.not_not.1 k) n⟩
def Qo(w0:Start)(s b:St):Prop:=∀(Z:Nat->Prop),Sg w0 Z->∀(base nt:Nat) c a w,Rel Z base nt s c a w->Va Z base w0 s.h c w->∃d,Rel Z base nt b d a w/\Va Z base w0 b.h d w
def Wk.up{s c}(h:Wk w0.F.length s c):Qo w0 s c:=λZ _ base nt e a w r b=>let ⟨f,d,K⟩:=h Z base nt e a w r;⟨f,d,b.keep K⟩
def Qo.refl(s):Qo w0 s s:=λ_ _ _ _ a _ _ r b=>⟨a,r,b⟩
def Qo.trans{s c e}(h:Qo w0 s c)(k:Qo w0 c e):Qo w0 s e:=λZ z d n g a w r b=>
 let ⟨j,f,i⟩:=h Z z d n g a w r b
 k Z z d n j a w f i
def A.YE{c}{s d}(h:Qo w0 s d)(k:A P base nt w0 c Q d):A P base nt w0 c Q s:=λZ z f a w r b=>let ⟨i,e,g⟩:=h Z z base nt f a w r b;k Z z i a w e g
def AG.YE{l}{s c}(h:Qo w0 s c)(k:AG P base nt w0 l Q c):AG P base nt w0 l Q s:=λZ z e a w r b=>let ⟨g,d,f⟩:=h Z z base nt e a w r b;k Z z g a w d f
def Lb{c}{k}{s a}(h:Qo w0 s a)(b:Qz P base nt w0 Q (.code c::k) .normal a):Qz P base nt w0 Q (.code c::k) .normal s:=by
 simp only[Qz]at b ⊢;exact b.YE h
def GZ(a:List (Nat × D)):List (Nat × D)->Prop
 | []=>True
 | (t,d)::r=>get a t=d/\GZ a r
def QcT{a}:∀{r:List (Nat × D)},GZ a r->∀t d,(t,d)∈r->get a t=d
 | [],_,_,_,h=>by cases h
 | (u,e)::r,h,t,d,b=>by
  rcases QK.1 b with h1|h1;cases h1;exact h.1;exact QcT h.2 t d h1
def QcU(b)(u):get b u=.undef\/(u,get b u)∈b:=by
 induction b with
 | nil=>exact .inl rfl
 | cons x r a=>
  obtain⟨t,d⟩:=x;simp only[get];by_cases h:t=u;subst h;simp;have:Nat.beq t u=false:=by rw[<- Ya,Wo];exact h
  rw[this];rcases a with a|a;exact .inl (by simpa using a);exact .inr (by simp[a])
def Wk.frame{m}{c fr'}{h}(d:GZ c fr'):Wk m ⟨c,h⟩ ⟨fr',h⟩:=λZ base nt b a w r=>
 ⟨b,⟨r.nt,r.defers,λt=>by
  rcases QcU fr' t with h1|h1;show QD Z h b w (get fr' t) _;rw[h1];exact .cl _ _ (.undef _);have:=QcT d _ _ h1;show QD Z h b w (get fr' t) _;rw[<- this];exact r.fr t,r.o⟩,.refl _ _ _⟩
def Kd.Lc(k a:Kd):Prop:=k.ty=a.ty/\k.ro=a.ro
def N4(o a:Ob):Prop:=a.gen=o.gen/\a.sz=o.sz/\a.n=o.n/\a.kd.Lc o.kd/\∀i,i<o.n->a.row i=o.row i
def BD:List Ob->List Ob->Prop
 | [],[]=>True
 | o::r,b::a=>N4 o b/\BD r a
 | _,_=>False
def dc:∀{h b:List Ob},BD h b->b.length=h.length/\∀(l:Nat) (a:Ob),b[l]?=some a->∃o,h[l]?=some o/\N4 o a
 | [],[],_=>⟨rfl,λl a e=>by simp at e⟩
 | [],_::_,h=>h.elim
 | _::_,[],h=>h.elim
 | o::r,a::i,h=>by
  obtain⟨g,f⟩:=dc h.2;refine⟨by simp[g],λl u e=>?_⟩;cases l with
  | zero=>simp at e;subst e;exact⟨o,rfl,h.1⟩
  | succ l=>simp at e;obtain⟨v,d,c⟩:=f l u e;exact⟨v,by simpa using d,c⟩
def QD.G0{h E}{J}{w}(n:BD h E){d}{v}(r:QD Z h J w d v):QD Z E J w d v:=by
 obtain⟨O,N⟩:=dc n;have q:∀(l:Nat) (o:Ob),h[l]?=some o->∃k,E[l]?=some k/\N4 o k:=λl o e=>by
  have:l<E.length:=by rw[O];exact KA e
  obtain⟨R,m,c⟩:=N l _ (QJ this);rw[e]at m;cases m;exact⟨_,QJ this,c⟩
 induction r with
 | cl d v M=>exact .cl d v M
 | ref l g F H o p a I y x z B u=>
  obtain⟨k,m,c⟩:=q l o y;exact .ref l g F H k p a I m x (by rw[c.2.2.2.1.1];exact z) (by rw[c.1];exact B) (λe=>by rw[c.2.1];exact u (by rw[e,c.1]))
 | ptr l g i j o p a y x z B u=>
  obtain⟨k,m,c⟩:=q l o y;exact .ptr l g i j k p a m x (by rw[c.2.2.2.1.1];exact z) (by rw[c.1];exact B) (λe=>by rw[c.2.1];exact u (by rw[e,c.1]))
 | mref l g o p b y x z B u=>
  obtain⟨k,m,c⟩:=q l o y;exact .mref l g k p b m x (by rw[c.2.2.2.1.1];exact z) (by rw[c.1];exact B) (λe=>u (by rw[e,c.1]))
 | clo f L C s n K t=>exact .clo f L C s n t
 | agg C s n K t=>exact .agg C s n t
 | tup C s n K t=>exact .tup C s n t
def Wk.G0{m}{fr}{h y}(n:BD h y):Wk m ⟨fr,h⟩ ⟨fr,y⟩:=λZ base nt E a w r=>by
 obtain⟨C,u⟩:=dc n;refine⟨E,⟨r.nt,r.defers,λt=>(r.fr t).G0 n,⟨by rw[C];exact r.o.len,r.o.inj,λl g c f=>?_,λl g b q c f=>?_⟩⟩,λ_ h=>h,λl o p _ c f=>?_⟩;obtain⟨o,e,d⟩:=u l g c;rw[d.2.2.1];exact r.o.VU l o e f;obtain⟨o,e,d,H,F,z,B⟩:=u l g c;obtain⟨I,x⟩:=r.o.at_ l o b q e f;exact⟨λk=>I (by rw[<- z.2,k]),x.to z.1 H F rfl (λi s=>by rw[B i s]) λi j v s _ k=>by rw[B i s];exact k.G0 n⟩;have Qb:l<y.length:=by rw[C];exact KA c
 obtain⟨J,e,d⟩:=u l _ (QJ Qb);have c:h[l]?=some o:=c;rw[c]at e;cases e;exact⟨_,QJ Qb,f,d.1,d.2.1,d.2.2.2.1.1⟩
mutual
def D.upto(k:Nat):D->Bool
 | .ref l _ _ _=>Nat.blt l k
 | .ptr l _ _ _=>Nat.blt l k
 | .mref l _=>Nat.blt l k
 | .clo _ _ a=>xh k a
 | .agg a=>xh k a
 | .tup a=>xh k a
 | _=>true
def xh(k:Nat):List D->Bool
 | []=>true
 | d::r=>d.upto k&&xh k r
end
def N5{k}:∀{b:List D},xh k b=true->∀i,i<b.length->(nth b i).upto k=true
 | [],_,i,h=>by simp at h
 | d::r,a,i,h=>by
  simp only[xh,ZE]at a;cases i with
  | zero=>exact a.1
  | succ i=>have:=N5 a.2 i (by simpa using h);simpa[nth] using this
def QD.take{h:List Ob}{E:List Pl}{w}{k}{d:D}{v}(r:QD Z h E w d v)(m:d.upto k=true):QD Z (h.take k) (E.take k) w d v:=by
 have N:∀b,free Z E b->free Z (E.take k) b:=λb F=>⟨F.1,λl q e=>by
  rw[XB]at e;split at e;exact F.2 l q e;cases e⟩
 induction r with
 | cl d v M=>exact .cl d v (M.mono λb F _=>⟨N b F,rfl⟩)
 | ref l g H I o p a J x u y B t=>
  have:l<k:=by simpa[D.upto,wT] using m
  exact .ref l g H I o p a J (by rw[XB,Qd this];exact x) (by rw[XB,Qd this];exact u) y B t
 | ptr l g i j o p a x u y B t=>
  have:l<k:=by simpa[D.upto,wT] using m
  exact .ptr l g i j o p a (by rw[XB,Qd this];exact x) (by rw[XB,Qd this];exact u) y B t
 | mref l g o p b x u y B t=>
  have:l<k:=by simpa[D.upto,wT] using m
  exact .mref l g o p b (by rw[XB,Qd this];exact x) (by rw[XB,Qd this];exact u) y B t
 | clo f L C n z K s=>exact .clo f L C n z λi c=>s i c (N5 (by simpa[D.upto] using m) i c)
 | agg C n z K s=>exact .agg C n z λi c=>s i c (N5 (by simpa[D.upto] using m) i c)
 | tup C n z K s=>exact .tup C n z λi c=>s i c (N5 (by simpa[D.upto] using m) i c)
def G1(k:Nat):List (Nat × D)->Bool
 | []=>true
 | (_,d)::r=>d.upto k&&G1 k r
def QcV{k}:∀{a:List (Nat × D)},G1 k a=true->∀t,(get a t).upto k=true
 | [],_,t=>rfl
 | (u,d)::r,h,t=>by
  simp only[G1,ZE]at h;simp only[get];cases Nat.beq u t;exact QcV h.2 t;exact h.1
def BE(k:Nat):List Ob->Prop
 | []=>True
 | o::r=>(∀i,i<o.n->xh k (o.row i)=true)/\BE k r
def oA{k}:∀{h:List Ob},BE k h->∀(l:Nat) (o:Ob),h[l]?=some o->∀i,i<o.n->xh k (o.row i)=true
 | [],_,l,o,e=>by simp at e
 | o::r,h,l,u,e=>by
  cases l with
  | zero=>simp at e;subst e;exact h.1
  | succ l=>simp at e;exact oA h.2 l u e
def Wk.drop{m}(k)(J:m<=k){fr}{h:List Ob}(E:G1 k fr=true)(C:BE k (h.take k)):Wk m ⟨fr,h⟩ ⟨fr,h.take k⟩:=λZ base nt pl a w r=>by
 have f:∀(l:Nat) (p:Pl),(pl.take k)[l]?=some p->pl[l]?=some p:=λl p e=>by
  rw[XB]at e;split at e;exact e;cases e
 have g:∀(l:Nat) (o:Ob),(h.take k)[l]?=some o->h[l]?=some o:=λl o e=>by
  rw[XB]at e;split at e;exact e;cases e
 refine⟨pl.take k,⟨r.nt,r.defers,λt=>(r.fr t).take (QcV E t),⟨by simp[r.o.len],λl s b q n I H=>r.o.inj l s b q n (f _ _ I) (f _ _ H),λl o c d=>r.o.VU l o (g _ _ c) (f _ _ d),λl o b q c d=>?_⟩⟩,
  λb B l q e=>B l q (f _ _ e),λl o p K c d=>⟨o,by show (h.take k)[l]? = _;rw[XB,Qd ω];exact c,by rw[XB,Qd ω];exact d,rfl,rfl,rfl⟩⟩
 obtain⟨F,x⟩:=r.o.at_ l o b q (g _ _ c) (f _ _ d);exact⟨F,x.to rfl rfl rfl rfl (λ_ _=>rfl) λi j v z y u=>u.take (N5 (oA C l o c i z) j y)⟩
def Wk.jw{m}{f}{h:List Ob}(t g)(c)(k:get f t=.nil):Wk m ⟨f,h⟩ ⟨put f t (.ref h.length 0 0 0),h++[⟨.arr,0,g,0,c⟩]⟩:=λZ base nt d a w r=>by
 have T:Tr h d w (h++[⟨.arr,0,g,0,c⟩]) (d++[none]) w:=Tr.push r.o (λ_ _=>rfl) _ _ (by intro b q e;cases e);refine⟨d++[none],⟨r.nt,r.defers,λu=>?_,r.o.jw _ rfl⟩,λb v=>RV v (λq e=>by cases e),λl o p _ s n=>⟨o,Bl s,Bl n,rfl,rfl,rfl⟩⟩;show QD Z _ _ w (get (put f t (.ref h.length 0 0 0)) u) _;rw[Eu];by_cases i:u=t;subst i;rw[Qd rfl];have:=r.fr u;have this:QD Z h d w (get f u) (a.tmps.getD u Go.undef):=this;rw[k]at this;obtain⟨x,j⟩:=Ae this;rw[j];have y:d.length=h.length:=r.o.len;exact .ref _ _ _ _ ⟨.arr,0,g,0,c⟩ none x 0 σ (by rw[<- y];simp) rfl (QB _) (λ_=>.inl ⟨rfl,rfl⟩);rw[Qc i];exact(r.fr u).tr T
def de(P:Program)(base nt:Nat)(w0:Start)(Q:Exit->St->Prop)(k:List Item)(I:Nat->St->Prop)(m:Nat):Exit->St->Prop
 | .normal,s=>∃b a,b<m/\Qo w0 s a/\I b a
 | e,s=>Qz P base nt w0 Q k e s
def Qoz{p:Nat->Prop}:∀n,p n->∃m,p m/\∀k,p k->m<=k:=by
 intro n;induction n using Nat.strongRecOn with
 | _ n b=>
  intro d;by_cases h:∃k,k<n/\p k;obtain⟨k,a,c⟩:=h;exact b k a c;exact⟨n,d,λk a=>Nat.le_of_not_lt λQb=>h ⟨k,Qb,a⟩⟩
def df{p:Nat->Prop}(h:∃n,p n):∃m,p m/\∀k,p k->m<=k:=let ⟨n,a⟩:=h;Qoz n a
open Classical in
def G2{c}{k}{s s0}(I)(H)(O:Qo w0 s s0)(U:I H s0)(d:∀m s,I m s->Qz P base nt w0 (de P base nt w0 Q k I m) [.code c] .normal s):Qz P base nt w0 Q (.code (.loop c)::k) .normal s:=by
 simp only[Qz];refine A.YE O ?_;intro Z z u a w r b;let J:Nat->Act->World->Prop:=λm a w=>∃s u,I m s/\Rel Z base nt s u a w/\Va Z base w0 s.h u w;let o:Act->World->Nat:=λa w=>if h:∃m,J m a w then Classical.choose (df h) else 0;refine wp_loop (λa w=>∃m,J m a w) o ⟨H,s0,u,U,r,b⟩ λa w y=>?_;have R:=(Classical.choose_spec (df y)).1;have E:o a w=Classical.choose (df y):=by simp only[o];rw[dif_pos y]
 obtain⟨L,C,T,N,Y⟩:=R;have:=d _ L T;simp only[Qz]at this;refine wp_mono (this Z z C a w N Y) λe x t S=>?_;obtain⟨q,n,i,f,j⟩:=S;cases e with
 | normal=>
  obtain⟨g,K,Qb,V,F⟩:=i;obtain⟨B,M,W⟩:=V Z z base nt n x t f j;have v:J g x t:=⟨K,B,F,M,W⟩;refine⟨⟨g,v⟩,?_⟩;rw[E];have:o x t<=g:=by simp only[o];rw[dif_pos ⟨g,v⟩];exact(Classical.choose_spec (df (p:=λm=>J m x t) ⟨g,v⟩)).2 g v
  omega
 | exit id=>exact⟨q,n,i,f,j⟩
 | goto l=>exact⟨q,n,i,f,j⟩
 | ret=>exact⟨q,n,i,f,j⟩
 | panic ch=>exact⟨q,n,i,f,j⟩
 | outgrown=>exact⟨q,n,i,f,j⟩
end
end Go.Fg
namespace Go.Fg
def QoD{P}{a d}{b}{Q}{c}{s}(h:Qz P a d b Q [.code c] .normal s):A P a d b c Q s:=by
 simp only[Qz]at h;exact h.mono λe g f=>by cases e<;>exact f
def QcW{P:Program}{X}(j:qz P X){f}{i:Func}{c}(n)(o:P.funcs[f]?=some i)(p:i.body=some c){F}{b:List D}{R}{g}(k:i.ntmps=g)(m:b.length<=g)
  (h:∀(a:Nat) (w:World) (e:List Pl),a<=w.heap.size->e.length=F.length->(exec X g n [.code c] ⟨jE b 0,F⟩).holds P a g ⟨w,F,e⟩ (As X.L i.results.toList R)):QM P f F b R:=
 Qos j.L o p (by rw[k];exact m) λa w e l d=>QoD (by rw[k];exact kG j l n _ _ (h a w e l d))
end Go.Fg
namespace Go.Fg
open Go.RowKit (Below)
variable {Z:Nat->Prop}
inductive BF (ops:Array Oper) (Zq:Array Bool) (i:Nat):Nat->Prop
 | Ss (j:Nat) (oj:Oper) (e:Edge) (hj:ops[j]?=some oj) (he:e∈oj.after) (hb:Region.binds .any e=true) (h:e.on=i):BF ops Zq i j
 | step (j:Nat) (oj:Oper) (e:Edge) (hj:ops[j]?=some oj) (he:e∈oj.after) (hb:Region.binds .any e=true) (hu:Zq.getD e.on true=false) (h:BF ops Zq i e.on):BF ops Zq i j
def both{b:Array Bool}{i}(h:b.getD i true=false):b.getD i false=false:=by
 rcases wU i b.size with a|a;simp[a]at h ⊢;exact h;simp[Array.getElem?_eq_none a]at h
def BF.QcX{a}{g:Array Bool}{i j}(h:BF a g i j)(o:g.getD i true=false):j ∉ Region.ready .any a g:=by
 intro n;obtain⟨_,p,b,k⟩:=mem_ready.1 n;cases h with
 | Ss _ l e c d f h=>
  rw[c]at b;cases b;have:=k e d f;rw[h,both o]at this;cases this
 | step _ l e c d f m h=>
  rw[c]at b;cases b;have:=k e d f;rw[both m]at this;cases this
def BF.set{a}{b:Array Bool}{i j k}(h:BF a b i j)(p:b.getD i true=false)(o:k∈Region.ready .any a b):BF a (b.setIfInBounds k true) i j:=by
 induction h with
 | Ss j c e d f g h=>exact .Ss j c e d f g h
 | step j c e d f g n h m=>
  refine .step j c e d f g ?_ m;have:k≠e.on:=λl=>by subst l;exact h.QcX p o
  rw[getD_set_ne true this];exact n
def Au(P:Program)(b:Array Oper)(N:Act->World->Prop)(e:Nat->World->World->Prop):Nat->Array Bool->Act->World->Prop
 | 0,c,a,w=>Region.ready .any b c=[]/\N a w
 | n+1,c,a,w=>(Region.ready .any b c=[]->N a w) /\
  ∀i∈Region.ready .any b c,wpOp P b (λ_ _ _=>False) i (λf d=>e i w d/\Au P b N e n (c.setIfInBounds i true) f d) a w
def QoF{P}{o:Oper}{a}{w}{K}{Q}(h:o.wp P a w K (λ_ _ _=>False)):o.wp P a w K Q:=by
 unfold Oper.wp at *;generalize (execOp a.eval o).run P w=r at *;cases r with
 | ok n c=>
  cases n<;>simp only[Oper.upon]at h ⊢<;>first|exact h|skip
  exact Calls.mono h λe d b=>by cases e<;>first|exact b|exact b.elim|exact(let ⟨_,_,h⟩:=b;h.elim)
 | halt x c=>cases x<;>simp only[Oper.upon]at h ⊢<;>exact h.elim
def dw{P}{c}{N}{p}{Q}(b:∀a w,N a w->Q .normal a w):∀(n:Nat) (g:Array Bool) (a:Act) (w:World),Au P c N p n g a w->wpAny P .any c Q n g a w
 | 0,_,_,_,h=>⟨h.1,b _ _ h.2⟩
 | n+1,g,a,w,h=>⟨λe=>b _ _ (h.1 e),λi j=>by
  have:=h.2 i j;unfold wpOp at this ⊢;split;rename_i f;simp only[f]at this;exact dw b n _ _ _ this.2;rename_i o f;simp only[f]at this;split;rename_i d;simp only[d,Vu]at this;rcases this with l|⟨_,_,_,k⟩;exact .inl (QoF (Oper.wp_mono (λr q m=>dw b n _ _ _ m.2) l));exact k.elim;rename_i d;simp only[d]at this;exact dw b n _ _ _ this.2⟩
def still(L:Jf)(o:Oper):Bool:=match o.op with
 | .extract ..=>true
 | .move _=>true
 | .nilCheck _=>true
 | .fieldAddr t _ f=>match NL L t f with
  | some (_,y)=>!Nat.beq y.size 0
  | none=>false
 | _=>false
def QoG{P}{L}(q:Z8 P L){o:Oper}(c:still L o=true){d}{w}{v}(h:(execOp d o).run P w=.ok (.value v) w)(j):(execOp d o).run P j=.ok (.value v) j:=by
 unfold still at c;split at c
 .rename_i x i b;simp only[execOp,b,Instr.extract]at h ⊢;split at h<;>first|skip|(simp at h)
  all_goals (first|(split at h<;>first|(simp at h)|skip)|skip)
  all_goals (first|(simp at h ⊢;exact h)|simp_all)
 rename_i x b;simp only[execOp,b]at h ⊢;simp at h ⊢;exact h;rename_i x b;exact((Vv.nilCheck b d) w _ w h).2 j;rename_i t x f b;split at c;rename_i s y p;obtain⟨g,r,k,l,_,n⟩:=nA q p;have m:y.size≠0:=λe=>by rw[e]at c;cases c
 cases hx:d x with
 | pointer a=>
  cases a with
  | some a=>
   have e:∀w:World,(execOp d o).run P w=.ok (.value (.pointer (some (a.add r.offset)))) w:=λw=>by
    simp[execOp,b,hx,Instr.fieldAt,run_underlying k,l,Instr.sureAddr,fieldPlace,n.sizeOf,m]
   rw[e w]at h;rw[e j];simp at h ⊢;exact h
  | none=>simp[execOp,b,hx,Instr.fieldAt,run_underlying k,l,Instr.sureAddr,stuck]at h
 | _=>simp[execOp,b,hx,Instr.fieldAt,run_underlying k,l,Instr.sureAddr,stuck]at h
 cases c;cases c
def QoH{P}{c:Array Oper}{N}{x}{i}{p}{v}{S}(M:∀w,x i w w)(z:c[i]?=some p)(K:∀(j:Nat) (o:Oper) q b,c[j]?=some o->o.op≠.select q b):
  ∀(d:Nat) (e:Array Bool) (a:Act) (m:World),S m ->
   (∀j n,c[j]?=some n->j≠i->e.getD j true=false->BF c e i j\/((∀w s,x j w s->S w->S s)/\p.apart c n=true)) ->
   i∈Region.ready .any c e->YieldsIf P c S p v a ->
   Au P c N x d (e.setIfInBounds i true) (a.put p.dst v) m->Au P c N x (d+1) e a m:=by
 intro d;induction d with
 | zero=>
  intro e a m y _ g t H;refine⟨λh=>(by rw[h]at g;cases g),λj l=>?_⟩;by_cases f:j=i;subst f;exact t.wpOp z y ⟨M _,H⟩;have:=ready_mono l f;rw[H.1]at this;cases this
 | succ d Q=>
  intro e a m y J g t H;have L:=(mem_ready.1 g).1;refine⟨λh=>(by rw[h]at g;cases g),λj l=>?_⟩;by_cases f:j=i;subst f;exact t.wpOp z y ⟨M _,H⟩;have U:=H.2 j (ready_mono l f);obtain⟨F,n,C,KB⟩:=mem_ready.1 l;obtain⟨W,BH⟩:=(J j n C f F).resolve_left λB=>B.QcX L l;have T:=wpOp_putIf C BH (λq b=>K i p q b z) (λq b=>K j n q b C) (λ_ _ _ h=>h) t U;refine wpOp_mono (λV s u=>?_) T;refine⟨u.2.1,Q (e.setIfInBounds j true) V s (W _ _ u.2.1 y) (λk O R Y r=>?_) (ready_mono g (Q8 f)) u.1 ?_⟩;have E:e.getD k true=false:=by
   by_cases I:j=k;subst I;exact F;rw[getD_set_ne true I]at r;exact r
  exact(J k O R Y E).imp (λB=>B.set L l) id;rw[Array.setIfInBounds_comm _ _ f];exact u.2.2
def K7(i:Nat):List Nat->Bool
 | []=>false
 | j::r=>Nat.beq i j || K7 i r
def xi{i}:∀{l:List Nat},K7 i l=true↔i∈l
 | []=>by simp[K7]
 | j::r=>by simp[K7,xi (l:=r)]
def dC(i:Nat):List Edge->Bool
 | []=>false
 | e::r=>(Region.binds .any e&&Nat.beq e.on i) || dC i r
def kH(done:List Nat):List Edge->Bool
 | []=>false
 | e::r=>(Region.binds .any e&&!K7 e.on done) || kH done r
def Oa(a:Array Oper)(done:List Nat)(i:Nat):Nat->List Edge->Bool
 | 0,_=>false
 | _+1,[]=>false
 | n+1,e::r=>(Region.binds .any e&&(Nat.beq e.on i || (!K7 e.on done&&match a[e.on]? with
   | some o=>Oa a done i n o.after.toList
   | none=>false))) || Oa a done i n r
def Dd(o:Oper):Bool:=match o.op with
 | .load ..=>true
 | _=>false
def De(o:Oper):Bool:=match o.op with
 | .insert ..=>true
 | _=>false
def Su(d:List Nat)(L:Jf)(a:Array Oper)(done:List Nat)(i:Nat)(c:Oper):List (Nat × Bool × Option Oper)->Bool
 | []=>true
 | (j,_,some b)::r=>(dC i b.after.toList || (((calm b&&!K7 j d) || still L c || (Dd c&&De b))&&c.apart a b) || Oa a done i (4*a.size) b.after.toList)&&Su d L a done i c r
 | (_,_,none)::_=>false
def dD(l:List Nat):Nat->Bool
 | 0=>true
 | n+1=>K7 n l&&dD l n
def QcZ{l}:∀{n:Nat},dD l n=true->∀j,j<n->j∈l
 | 0,_,j,h=>ω
 | n+1,h,j,a=>by
  simp only[dD,ZE,xi]at h;by_cases e:j=n;subst e;exact h.1;exact QcZ h.2 j ω
def Qc0{i}:∀{l:List Edge},dC i l=true->∃e∈l,Region.binds .any e=true/\e.on=i
 | [],h=>by cases h
 | e::r,h=>by
  simp only[dC,Bf,ZE,Wo]at h;rcases h with h|h;exact⟨e,σ,h.1,h.2⟩;obtain⟨c,b,a⟩:=Qc0 h;exact⟨c,by simp[b],a⟩
def Qc1{done}:∀{l:List Edge},kH done l=true->∃e∈l,Region.binds .any e=true/\e.on ∉ done
 | [],h=>by cases h
 | e::r,h=>by
  simp only[kH,Bf,ZE,qv]at h;rcases h with h|h;exact⟨e,σ,h.1,λa=>by rw[xi.2 a]at h;cases h.2⟩;obtain⟨d,c,b⟩:=Qc1 h;exact⟨d,by simp[c],b⟩
def dF{done}:∀{l:List Edge},kH done l=false->∀e∈l,Region.binds .any e=true->e.on∈done
 | [],_,e,h,_=>by cases h
 | e::r,h,c,b,a=>by
  simp only[kH,Gq,Gm]at h;rcases QK.1 b with h1|h1;subst h1;rcases h.1 with h2|h2;rw[a]at h2;cases h2;exact xi.1 (by simpa using h2);exact dF h.2 c h1 a
structure Marks (ops:Array Oper) (Zq:Array Bool) (done:List Nat):Prop where
 size:Zq.size=ops.size
 get:∀j,j<ops.size->(Zq.getD j true=false↔j ∉ done)
 get':∀j,Zq.getD j false=true↔j∈done/\j<ops.size
 lt:∀j,j∈done->j<ops.size
def Marks.set{a:Array Oper}{d:Array Bool}{done}(M:Marks a d done){i}(c:i<a.size):Marks a (d.setIfInBounds i true) (i::done) where
 size:=by simp[M.size]
 get:=λj b=>by
  by_cases e:i=j;subst e;simp[M.size,c];rw[getD_set_ne true e,M.get j b];simp[Q8 e]
 get':=λj=>by
  by_cases e:i=j;subst e;simp[M.size,c];rw[getD_set_ne false e,M.get' j];simp[Q8 e]
 lt:=λj b=>by
  rcases QK.1 b with e|e;subst e;exact c;exact M.lt j e
def qB(o:Oper):Bool:=match o.op with
 | .alloc _=>true
 | .makeMap _ none=>true
 | _=>false
def G3(P:Program)(o:Oper)(d:Ob)(mk:Nat->D):Prop:=∃(obj:Obj) (a:Nat->Value),
 (∀(e:Operand->Value) (w:World),(execOp e o).run P w=.ok (.value (a w.heap.size)) (w.alloc obj)) /\
 (∀(Z:Nat->Prop) (h:List Ob) (c:List Pl) (w:World) (b:Nat),w.heap[b]?=some obj->Kz Z h c w d b 0) /\
 (∀(Z:Nat->Prop) (h:List Ob) (c:List Pl) (w:World) (l b:Nat),h[l]?=some d->c[l]?=some (some (b,0))->QD Z h c w (mk l) (a b))
def Qc2{P}{L}(n:Z8 P L){o:Oper}{t:TypeId}(g:o.op=.alloc t){y}(f:ty L t=some y):
  G3 P o ⟨.one,0,(y.zero.map J2).length,1,λ_=>y.zero.map J2⟩ (λl=>.ptr l 0 0 0):=by
 obtain⟨z,hz,r⟩:=(n _ _ f).zeroValue;refine⟨.cells z.cells t,λb=>.pointer (some ⟨b,0,none⟩),fun s w=>?_,λZ h d w b m=>?_,λZ h d w l b q p=>?_⟩;simp[execOp,g,Instr.alloc,newVar,newRow,r];refine .NJ rfl ⟨z.cells,t,m,by simp[<- hz],λ_ _=>rfl,λi j k a=>?_⟩;have e:i=0:=by simp at k;omega
 subst e;have c:j<z.cells.size:=by rw[<- hz]at a;simpa using a
 refine⟨Q6 z.cells.toList j,?_,.cl _ _ ?_⟩;simp only[Nat.zero_mul,Jz,Q6,QW];rw[vE,jr c];rfl;rw[<- hz];simp only[nth,Q6,QW,KL,vE,jr c,KM,KW];exact CQ _ _ _;exact .ptr _ _ _ _ _ (some (b,0)) _ q p rfl (QB _) (λ_=>⟨_,_,rfl,σ⟩)
def Qc3{P}{o:Oper}{t:TypeId}(d:o.op=.makeMap t none)(q):G3 P o (QR q 0 []) (λl=>.mref l 0):=by
 refine⟨.map #[] 0,λb=>.map (some b),fun m w=>?_,λZ h c w b f=>?_,λZ h c w l b k g=>?_⟩;simp[execOp,d,Instr.makeMap];exact od (kd:=.map) f ⟨rfl,λi e a h=>by simp at h,λi j a n _ h=>by simp at h⟩ rfl;exact .mref _ _ (QR q 0 []) (some (b,0)) b k g ⟨by simp[QR,Wq,Kd.ty],rfl⟩ (QB _) (λ_=>rfl)
section
variable (P:Program)(base nt:Nat)(w0:Start)
def EL(o : Oper): Bool := calm o && !(o.pos == "!")
def YZ(b : Bool)(o : Oper): Oper := ⟨o.dst, o.op, o.type, bif b then "!" else "", #[], none⟩
theorem Qc4{P}{b}{o:Oper}{a}{w}{K}{Q}:(YZ b o).wp P a w K Q=o.wp P a w K Q:=rfl
def QoJ(b)(o):EL (YZ b o)=(calm o&&!b):=by cases b<;>simp[EL,YZ,calm]
def kI(o:Oper)(w a:World):Prop:=match o.op with
 | .insert ..=>jx w a
 | _=>EL o=true->Ext w a
def kI.ext{o}{w a}(h:Ext w a):kI o w a:=by
 unfold kI;split;exact .ext h;exact λ_=>h
def kI.calm{o}{w a}(h:kI o w a)(b:EL o=true):Ext w a:=by
 unfold kI at h;split at h;rename_i c;simp[EL,Go.Fg.calm,c]at b;exact h b
def kI.ins{o}{w b}(h:kI o w b)(a:De o=true):jx w b:=by
 unfold De at a;split at a;rename_i c;unfold kI at h;rw[c]at h;exact h;cases a
def kI.mk{o}{w a}(h:EL o=true->Ext w a)(c:De o=false):kI o w a:=by
 unfold kI;split;rename_i b;simp[De,b]at c;exact h
def xj(c:List Nat)(a:Array Oper)(i:Nat)(w b:World):Prop:=match a[i]? with
 | some o=>kI (YZ (K7 i c) o) w b
 | none=>True
def Le{c}{a:Array Oper}{i}{o}{w b}(d:a[i]?=some o):xj c a i w b=kI (YZ (K7 i c) o) w b:=by simp only[xj,d]
def AE(o:Oper)(F:St->Prop)(s:St):Prop:=∀(Z:Nat->Prop),Sg w0 Z->∀e a w,Rel Z base nt s e a w->Va Z base w0 s.h e w ->
 o.wp P a w (λg b=>kI o w b/\∃d c f v,F ⟨Zb s.fr o.dst d,c⟩/\Rel Z base nt ⟨Zb s.fr o.dst d,c⟩ f g b/\Va Z base w0 c f b/\Tr s.h e w c f b/\g=a.put o.dst v) (λ_ _ _=>False)
def Xi(b:Bool)(o:Oper)(F:St->Prop)(s:St):Prop:=match b with
 | true=>∃d,Ww P base nt o s d/\(Dd o=true->bD P base nt o s d)/\Zn nt o.dst=true/\F ⟨Zb s.fr o.dst d,s.h⟩
 | false=>match qB o with
  | true=>∃a mk,G3 P o a mk/\Zn nt o.dst=true/\F ⟨Zb s.fr o.dst (mk s.h.length),s.h++[a]⟩
  | false=>AE P base nt w0 o F s
def AX(K:St->Prop):List (Bool × Oper × G)->St->Prop
 | [],s=>K s
 | (a,o,g)::r,s=>match g with
  | none=>Xi P base nt w0 a o (AX K r) s
  | some (none,_)=>Zn nt o.dst=true/\AX K r ⟨Zb s.fr o.dst (.raw Go.undef),s.h⟩
  | some (some t,b)=>match get s.fr t with
   | .raw (.bool x)=>(x=b->Xi P base nt w0 a o (AX K r) ⟨put s.fr t (.raw (.bool b)),s.h⟩) /\
     (x=(!b)->Zn nt o.dst=true/\AX K r ⟨Zb (put s.fr t (.raw (.bool (!b)))) o.dst (.raw Go.undef),s.h⟩)
   | .raw (.tuple _)=>Zn nt o.dst=true/\AX K r ⟨Zb s.fr o.dst (.raw Go.undef),s.h⟩
   | _=>False
end
def Vj(c:List Nat)(a:Array Oper)(l:List (Nat × Bool)):List (Bool × Oper × G):=l.map λb=>match a[b.1]? with
 | some o=>(b.2,YZ (K7 b.1 c) o,guardOf a o)
 | none => (b.2, ⟨none, .move (.tmp 0), 0, "", #[], none⟩, none)
section
variable {nc:List Nat}{P:Program}{base nt:Nat}{w0:Start}
def QoK{o:Oper}{c}{mk}{F}{s:St}(h:G3 P o c mk)(j:Zn nt o.dst=true)(B:base<=w0.w.heap.size)(u:F ⟨Zb s.fr o.dst (mk s.h.length),s.h++[c]⟩):AE P base nt w0 o F s:=by
 intro Z z d a w r b;obtain⟨obj,g,y,x,v⟩:=h;have e:∀k,k<w.heap.size->(w.alloc obj).heap[k]? = w.heap[k]? := λk f=>wW w obj k f;have C:(w.alloc obj).heap[w.heap.size]?=some obj:=heap_alloc_new w obj;have i:base<=w.heap.size:=JY B b.1.size;have T:Tr s.h d w (s.h++[c]) (d++[some (w.heap.size,0)]) (w.alloc obj):=Tr.push r.o e _ _ (by intro k q n;simp at n;omega);have l:=Zh.RW r.o e c (QB _) i (x Z (s.h++[c]) (d++[some (w.heap.size,0)]) _ _ C);have m:QD Z (s.h++[c]) (d++[some (w.heap.size,0)]) (w.alloc obj) (mk s.h.length) (g w.heap.size):=v Z _ _ _ _ _ σ (by rw[<- r.o.len];simp);unfold Oper.wp;rw[y a.eval w];simp only[Oper.upon_value];refine⟨kI.ext λk f=>e k f,_,_,_,_,u,?_,b.step T (EA i obj),T,rfl⟩;cases p:o.dst with
 | none=>exact r.Ad T l _
 | some t=>rw[p]at j;exact r.to T l (kF j) m
def Xi.ae(d:base<=w0.w.heap.size){o}{F}{s}(h:Xi P base nt w0 false o F s):AE P base nt w0 o F s:=by
 simp only[Xi]at h;split at h;obtain⟨e,mk,c,b,a⟩:=h;exact QoK c b d a;exact h
def QD.Oc{Z M}{h L}{B F}{w C:World}(Q:∀b,free Z B b->b<w.heap.size->free M F b/\C.heap[b]? = w.heap[b]?)
  (n:∀(l:Nat) (o:Ob) (p:Pl),h[l]?=some o->B[l]?=some p->L[l]?=some o/\F[l]?=some p) (R:∀(l b q:Nat),B[l]?=some (some (b,q))->C.heap[b]? = w.heap[b]?) {d:D} {v:Value} (r:QD Z h B w d v):QD M L F C d v:=by
 induction r with
 | cl d v E=>exact .cl d v (E.mono Q)
 | ref l g H I o p a J k e x y u=>
  refine .ref l g H I o p a J (n l o p k e).1 (n l o p k e).2 x y λV=>?_;rcases u V with T|⟨b,q,c,el,N,S,U,E,m⟩;exact .inl T;exact .inr ⟨b,q,c,el,N,S,by rw[R l b q (by rw[e,N])];exact U,E,m⟩
 | ptr l g i j o p a k e x y u=>exact .ptr l g i j o p a (n l o p k e).1 (n l o p k e).2 x y u
 | mref l g o p b k e x y u=>exact .mref l g o p b (n l o p k e).1 (n l o p k e).2 x y u
 | clo f O z s m K t=>exact .clo f O z s m t
 | agg z s m K t=>exact .agg z s m t
 | tup z s m K t=>exact .tup z s m t
def Zh.Oc{Z g}{h}{c}{w f:World}(R:Zh Z base h c w)(n:∀b,free Z c b->b<w.heap.size->free g c b/\f.heap[b]? = w.heap[b]?)(e:∀b,b<w.heap.size->f.heap[b]? = w.heap[b]?):Zh g base h c f where
 len:=R.len
 inj:=R.inj
 VU:=R.VU
 at_:=λl o b q m d=>by
  obtain⟨p,x⟩:=R.at_ l o b q m d;exact⟨p,x.to rfl rfl rfl (e b (R.lt d).1) (λ_ _=>rfl) λi j v _ _ k=>k.Oc n (λ_ _ _ a b=>⟨a,b⟩) (λl b q d=>e b (R.lt d).1)⟩
def Zh.oB{Z s}{h}{g}{w}(R:Zh Z base h g w){b}(C:∀c,free Z g c->free s (g++[some (b,0)]) c)(y:Xp g b)(J:base<=b){n}
  (z:Kz s (h++[n]) (g++[some (b,0)]) w n b 0):Zh s base (h++[n]) (g++[some (b,0)]) w:=by
 refine⟨by simp[R.len],?_,?_,?_⟩;intro l u r q t p H;rcases Yd p with e|⟨e,f⟩<;>rcases Yd H with d|⟨d,k⟩;exact R.inj l u r q t e d;simp at k;obtain⟨rfl,rfl⟩:=k;exact absurd e (y l q);simp at f;obtain⟨rfl,rfl⟩:=f;exact absurd d (y u t);omega;intro l o m p;rcases Yd p with e|⟨e,f⟩;rcases Yd m with d|⟨d,k⟩;exact R.VU l o d e;have:=Wp e;have:=R.len;omega;simp at f;intro l o r q m I;rcases Yd I with e|⟨e,f⟩;rcases Yd m with d|⟨d,k⟩;obtain⟨F,x⟩:=R.at_ l o r q d e;exact⟨F,x.to rfl rfl rfl rfl (λ_ _=>rfl) λi j v _ _ B=>B.Oc (λc E _=>⟨C c E,rfl⟩) (λ_ _ _ a b=>⟨Bl a,Bl b⟩) (λ_ _ _ _=>rfl)⟩;have:=Wp e;have:=R.len;omega;rcases Yd m with d|⟨d,k⟩;have:=KA d;have:=R.len;omega;subst k;simp at f;obtain⟨rfl,rfl⟩:=f;exact⟨λ_=>J,z⟩
def Wx(a:Array Oper)(i:Nat):Bool:=match a[i]? with
 | some o=>qB o&&o.guard.isNone&&o.after.toList.isEmpty
 | none=>false
def Od(a:Array Oper)(done:List Nat)(i:Nat):List Edge->Bool
 | []=>false
 | e::r=>(Region.binds .any e&&!K7 e.on done&&(!Wx a e.on || Nat.beq e.on i)) || Od a done i r
def Sv(a:Array Oper)(done:List Nat)(i:Nat):List (Nat × Bool × Option Oper)->Bool
 | []=>true
 | (j,_,some b)::r=>(Wx a j || Od a done i b.after.toList)&&Sv a done i r
 | (_,_,none)::_=>false
def Lf(a:Array Oper)(R:List Nat):List (Nat × Bool × Option Oper):=R.map λi=>(i,false,a[i]?)
def EM(nc:List Nat)(L:Jf)(a:Array Oper)(R:List Nat):List (Nat × Bool × Option Oper)->List Nat->Bool
 | [],_=>true
 | (i,p,some o)::r,done=>!K7 i done&&!kH done o.after.toList&&(match p with
  | true=>!Wx a i&&Su nc L a done i o (r++Lf a R)
  | false=>Sv a done i (r++Lf a R))&&EM nc L a R r (i::done)
 | (_,_,none)::_,_=>false
def Qc5{a}{done}{i}:∀{l:List Edge},Od a done i l=true->∃e∈l,Region.binds .any e=true/\e.on ∉ done/\(Wx a e.on=false\/e.on=i)
 | [],h=>by cases h
 | e::r,h=>by
  simp only[Od,Bf,ZE,qv,Wo]at h;rcases h with h|h;exact⟨e,σ,h.1.1,(λb=>by rw[xi.2 b]at h;exact absurd h.1.2 σ),h.2⟩;obtain⟨f,d,c⟩:=Qc5 h;exact⟨f,by simp[d],c⟩
def Qc6{a:Array Oper}{done}{i}:∀{r:List (Nat × Bool × Option Oper)},(∀x∈r,x.2.2=a[x.1]?)->Sv a done i r=true->∀x∈r,∀b,a[x.1]?=some b->Wx a x.1=true\/Od a done i b.after.toList=true
 | [],_,_,x,hx,_,_=>by cases hx
 | (j,p,none)::r,_,h,_,_,_,_=>by cases h
 | (j,p,some o)::r,d,h,x,hx,b,c=>by
  simp only[Sv,ZE,Bf]at h;rcases QK.1 hx with h1|h1;subst h1;have e:some o=a[j]? := d (j,p,some o) σ;have c:a[j]?=some b:=c;rw[c]at e;cases e;exact h.1;exact Qc6 (λy f=>d y (by simp[f])) h.2 x h1 b c
abbrev En:=Nat × Bool × Option Nat
def XG(l:List En):List Nat:=l.map (·.1)
def YG(l:List En):List (Nat × Bool):=l.map λx=>(x.1,x.2.1)
def early:List En->List Nat
 | []=>[]
 | (i,_,some _)::r=>i::early r
 | (_,_,none)::r=>early r
def blocks:List En->List Nat
 | []=>[]
 | (_,_,some b)::r=>b::blocks r
 | (_,_,none)::r=>blocks r
def YH:List En->Nat
 | []=>0
 | (_,_,some _)::r=>YH r
 | (_,_,none)::r=>YH r+1
def Lg{j}:∀{l:List En},j∈early l↔∃p b,(j,p,some b)∈l
 | []=>by simp[early]
 | (i,p,some b)::r=>by
  simp only[early,QK,Lg (l:=r),Q9,Q5];constructor;rintro (rfl|⟨a,c,h⟩);exact⟨p,b,.inl ⟨rfl,rfl,rfl⟩⟩;exact⟨a,c,.inr h⟩;rintro⟨a,c,⟨rfl,_⟩|h⟩;exact .inl rfl;exact .inr ⟨a,c,h⟩
 | (i,p,none)::r=>by
  simp only[early,QK,Lg (l:=r),Q9,reduceCtorEq,and_false,false_or]
def EN{c}:∀{l:List En},c∈blocks l↔∃j p,(j,p,some c)∈l
 | []=>by simp[blocks]
 | (i,p,some b)::r=>by
  simp only[blocks,QK,EN (l:=r),Q9,Q5];constructor;rintro (rfl|⟨a,d,h⟩);exact⟨i,p,.inl ⟨rfl,rfl,rfl⟩⟩;exact⟨a,d,.inr h⟩;rintro⟨a,d,⟨_,_,rfl⟩|h⟩;exact .inl rfl;exact .inr ⟨a,d,h⟩
 | (i,p,none)::r=>by
  simp only[blocks,QK,EN (l:=r),Q9,reduceCtorEq,and_false,false_or]
def oC{j:Nat}{p:Bool}{b:Nat}{l2:List En}:∀a:List En,YH (a++(j,p,none)::l2)=YH (a++(j,p,some b)::l2)+1
 | []=>rfl
 | (_,_,some _)::r=>oC r
 | (_,_,none)::r=>by
  simp only[YT,YH];rw[oC (b:=b) r]
def oD{j:Nat}{p:Bool}{b:Nat}{a:List En}:∀d:List En,b ∉ blocks (d++(j,p,none)::a)->(blocks (d++(j,p,none)::a)).Nodup->(blocks (d++(j,p,some b)::a)).Nodup
 | [],h,k=>by simp only[zR,blocks]at h k ⊢;exact ZV.2 ⟨h,k⟩
 | (i,q,some c)::r,h,k=>by
  simp only[YT,blocks,QK,qx]at h k ⊢;obtain⟨f,l⟩:=ZV.1 k;refine ZV.2 ⟨λm=>?_,oD r h.2 l⟩;obtain⟨g,e,n⟩:=EN.1 m;rcases Q1.1 n with h1|h1;exact f (EN.2 ⟨g,e,Q1.2 (.inl h1)⟩);rcases QK.1 h1 with h2|h2;cases h2;exact h.1 rfl;exact f (EN.2 ⟨g,e,Q1.2 (.inr (QK.2 (.inr h2)))⟩)
 | (i,q,none)::r,h,k=>by
  simp only[YT,blocks]at h k ⊢;exact oD r h k
structure dG (P:Program) (ops:Array Oper) (nt:Nat) (w0:Start) (pl:List Pl) (a:Act) (w:World) (i b:Nat):Prop where
 run:∃(o:Oper) (d:Nat) (w1:World) (ρ:Operand->Value) (v:Value) (obj:Obj),ops[i]?=some o/\o.dst=some d/\(execOp ρ o).run P w1=.ok (.value v) (w1.alloc obj)/\b=w1.heap.size/\w.heap[b]?=some obj/\(d<nt->a.tmps.getD d Go.undef=v)
 Xp:Xp pl b
 low:w0.w.heap.size<=b
def Qc7{a:Act}{t:Option Nat}{d:Nat}{v:Value}(h:t≠some d):(a.put t v).tmps.getD d Go.undef=a.tmps.getD d Go.undef:=by
 cases t with
 | none=>rfl
 | some t=>
  have:t≠d:=λe=>h (by rw[e]);simp[Act.put,x5,mX this]
def dG.step{P:Program}{c:Array Oper}{nt:Nat}{w0:Start}{h h':List Ob}{f l:List Pl}{a:Act}{w e:World}{i b:Nat}(p:dG P c nt w0 f a w i b)(T:Tr h f w h' l e){t:Option Nat}(v:Value)
  (x:∀o d,c[i]?=some o->o.dst=some d->t≠some d):dG P c nt w0 l (a.put t v) e i b:=by
 obtain⟨o,d,n,m,u,obj,k,j,B,z,g,y⟩:=p.run;obtain⟨r,q⟩:=T.JU b p.Xp (kr g);exact⟨⟨o,d,n,m,u,obj,k,j,B,z,by rw[q];exact g,λs=>by rw[Qc7 (x o d k j)];exact y s⟩,r,p.low⟩
def dH{a}{t}{u}{d}(h:t≠some u):get (Zb a t d) u=get a u:=by
 cases t with
 | none=>rfl
 | some t=>rw[Zb,Eu,Qc (λe=>h (by rw[e]))]
structure yj (nc:List Nat) (P:Program) (L:Jf) (ops:Array Oper) (R:List Nat) (base nt:Nat) (w0:Start) (Z0 Z:Nat->Prop) (l:List En) (done:List Nat) (Zq:Array Bool) (s:St) (pl:List Pl) (a:Act) (w:World):Prop where
 sched:EM nc L ops R ((YG l).map λip=>(ip.1,ip.2,ops[ip.1]?)) done=true
 cover:∀j,j<ops.size->j ∉ done->j∈XG l\/j∈R
 Oe:∀j∈R,j ∉ done/\j ∉ XG l/\Wx ops j=false
 marks:Marks ops Zq (early l++done)
 late:∀i p b,(i,p,some b)∈l->Wx ops i=true
 lp:∀i p q,(i,p,q)∈l->Wx ops i=true->p=false
 z:∀b,Z b↔Z0 b/\b ∉ blocks l
 z0:∀i p b,(i,p,some b)∈l->Z0 b
 BI:(blocks l).Nodup
 Sw:∀i p q,(i,p,q)∈l->Wx ops i=true->∀o d,ops[i]?=some o->o.dst=some d->get s.fr d=.undef
 rel:Rel Z base nt s pl a w
 since:Va Z base w0 s.h pl w
 Lh:∀i p b,(i,p,some b)∈l->dG P ops nt w0 pl a w i b
def dI{L}{a:Array Oper}{R}:∀{l:List En} {done:List Nat},EM nc L a R ((YG l).map λc=>(c.1,c.2,a[c.1]?)) done=true->∀j,j∈XG l->j ∉ done
 | [],_,_,j,b=>by simp[XG]at b
 | (i,p,q)::r,done,h,j,b=>by
  simp only[YG,JT]at h;cases e:a[i]? with
  | none=>rw[e]at h;cases h
  | some o=>
   rw[e]at h;simp only[EM,ZE,qv]at h;simp only[XG,JT,QK]at b;rcases b with rfl|b;exact λd=>by rw[xi.2 d]at h;exact absurd h.1.1.1 σ
   exact λd=>dI (l:=r) h.2 j b (QK.2 (.inr d))
def Marks.same{a}{e}{d c}(M:Marks a e d)(h:∀j,j∈d↔j∈c):Marks a e c where
 size:=M.size
 get:=λj b=>by rw[M.get j b,h]
 get':=λj=>by rw[M.get',h]
 lt:=λj b=>M.lt j ((h j).2 b)
def dJ{a:Array Oper}{i}{o:Oper}(b:a[i]?=some o)(h:Wx a i=true):qB o=true/\o.guard=none/\∀e,e ∉ o.after:=by
 simp only[Wx,b,ZE,Option.isNone_iff_eq_none,List.isEmpty_iff]at h;exact⟨h.1.1,h.1.2,λe c=>by have:e∈o.after.toList:=(by simpa using c);rw [h.2] at this; cases this⟩
def oF{a:Array Oper}{t}{done s}(M:Marks a t (s++done))(p:∀j∈s,Wx a j=true){i}:∀{n:Nat} {j:Nat} {b:Oper} {l:List Edge},a[j]?=some b->(∀e∈l,e∈b.after)->Oa a done i n l=true->BF a t i j
 | 0,_,_,_,_,_,h=>by cases h
 | n+1,_,_,[],_,_,h=>by cases h
 | n+1,j,b,e::r,m,k,h=>by
  simp only[Oa,Bf,ZE,Wo,qv]at h;rcases h with ⟨q,f|⟨f,d⟩⟩|h;exact .Ss j b e m (k e σ) q f;split at d;rename_i o g;have Qb:=(WK.1 g).1;refine .step j b e m (k e σ) q ((M.get e.on Qb).2 λu=>?_) (oF M p g (λe c=>by simpa using c) d);rcases Q1.1 u with h3|h3;have v:=(dJ g (p _ h3)).2.2;have:o.after.toList=[]:=mZ.2 λe c=>v e (by simpa using c);rw[this]at d;cases n<;>simp[Oa]at d;rw[xi.2 h3]at f;cases f;cases d;exact oF M p m (λe c=>k e (by simp[c])) h
def Qc8{L}{a:Array Oper}{done k}{i}{d:Oper}{l}(M:Marks a l (k++done))(m:∀j∈k,Wx a j=true):∀{r:List (Nat × Bool × Option Oper)},(∀x∈r,x.2.2=a[x.1]?)->Su nc L a done i d r=true->∀x∈r,∀b,a[x.1]?=some b->BF a l i x.1\/((((calm b=true/\K7 x.1 nc=false)\/still L d=true)\/(Dd d=true/\De b=true))/\d.apart a b=true)
 | [],_,_,x,hx,_,_=>by cases hx
 | (j,p,none)::r,_,h,_,_,_,_=>by cases h
 | (j,p,some o)::r,g,h,x,hx,b,c=>by
  simp only[Su,ZE,Bf]at h;rcases QK.1 hx with h1|h1;subst h1;have e:some o=a[j]? := g (j,p,some o) σ;have c:a[j]?=some b:=c;rw[c]at e;cases e;rcases h.1 with (h2|h2)|h2;obtain⟨e,f,q,s⟩:=Qc0 h2;exact .inl (.Ss j _ e c (by simpa using f) q s);simp only[qv]at h2;exact .inr h2;exact .inl (oF M m c (λe f=>by simpa using f) h2);exact Qc8 M m (λy n=>g y (by simp[n])) h.2 x h1 b c
def Sx(a:Array Oper):Prop:=∀(i j:Nat) (c b:Oper) (d:Nat),i≠j->Wx a i=true->a[i]?=some c->a[j]?=some b->c.dst=some d->b.dst≠some d
def yj.head{L}{b}{R}{n Z}{i}{p}{q}{r}{done}{m}{s}{g}{a}{w}(I:yj nc P L b R base nt w0 n Z ((i,p,q)::r) done m s g a w):
  ∃o,b[i]?=some o/\i ∉ done/\(∀e∈o.after,Region.binds .any e=true->e.on∈done) /\
   (p=true->Wx b i=false/\Su nc L b done i o ((YG r).map (λc=>(c.1,c.2,b[c.1]?))++Lf b R)=true)/\(p=false->Sv b done i ((YG r).map (λc=>(c.1,c.2,b[c.1]?))++Lf b R)=true) /\
   EM nc L b R ((YG r).map λc=>(c.1,c.2,b[c.1]?)) (i::done)=true:=by
 have h:=I.sched;simp only[YG,JT]at h;cases f:b[i]? with
 | none=>rw[f]at h;cases h
 | some o=>
  rw[f]at h;simp only[EM,ZE,qv]at h;refine⟨o,rfl,λj=>by rw[xi.2 j]at h;exact absurd h.1.1.1 σ,λe k l=>dF h.1.1.2 e (by simpa using k) l,λd=>?_,λd=>?_,h.2⟩;subst d;have:=h.1.2;simp only[ZE,qv]at this;exact this;subst d;exact h.1.2
def oG{i}{p}{q}{l}(h:(i,p,q)∈l):i∈XG l:=Ji.2 ⟨_,h,rfl⟩
def yj.next{L}{f}{R}(Q:Sx f){H Z}{i}{p}{r}{done}{E}{s s'}{y t}{a}{w m}(I:yj nc P L f R base nt w0 H Z ((i,p,none)::r) done E s y a w)
  {o:Oper} (x:f[i]?=some o) (v:Value) (T:Tr s.h y w s'.h t m) (O:Rel Z base nt s' t (a.put o.dst v) m) (N:Va Z base w0 s'.h t m) (M:∀d,o.dst≠some d->get s.fr d=.undef->get s'.fr d=.undef) :
  yj nc P L f R base nt w0 H Z r (i::done) (E.setIfInBounds i true) s' t (a.put o.dst v) m:=by
 obtain⟨U,F,Y,W,V,h4,B⟩:=I.head;rw[x]at F;cases F;have Qb:=(WK.1 x).1;have S:∀j p q,(j,p,q)∈r->j≠i:=λj p q c e=>dI B j (oG c) (by rw[e];simp);have C:∀j p q,(j,p,q)∈r->Wx f j=true->∀k d,f[j]?=some k->k.dst=some d->o.dst≠some d:=λj p q c n k d l g=>Q j i k o d (S j p q c) n l x g;refine⟨B,λj c g=>?_,λj c=>?_,(I.marks.set Qb).same λj=>?_,λj p b c=>I.late j p b (J8 _ c),λj p q c=>I.lp j p q (J8 _ c),I.z,λj p b c=>I.z0 j p b (J8 _ c),I.BI,λj p q c n k d l g=>?_,O,N,λj p b c=>?_⟩;simp only[QK,qx]at g;have:=I.cover j c g.2;simp only[XG,JT,QK]at this;rcases this with (h|h)|h;exact absurd h g.1;exact .inl h;exact .inr h;obtain⟨K,u,J⟩:=I.Oe j c;simp only[XG,JT,QK,qx]at u;exact⟨λh=>by
  rcases QK.1 h with h|h;exact u.1 h;exact K h,u.2,J⟩
 simp only[early,QK,Q1];constructor;rintro (h|h|h);exact .inr (.inl h);exact .inl h;exact .inr (.inr h);rintro (h|h|h);exact .inr (.inl h);exact .inl h;exact .inr (.inr h);exact M d (C j p q c n k d l g) (I.Sw j p q (J8 _ c) n k d l g);exact(I.Lh j p b (J8 _ c)).step T v λk d l g=>C j p _ c (I.late j p b (J8 _ c)) k d l g
def Tr.snoc{h r}{j t}{w i:World}(T:Tr h j w r t i){b q}(B:w.heap.size<=b)(v):Tr h j w (r++[v]) (t++[some (b,q)]) i where
 JU:=λc f Qb=>⟨RV (T.JU c f Qb).1 λq e=>by simp at e;omega,(T.JU c f Qb).2⟩
 obj:=λl o p d a=>by
  obtain⟨k,u,g,n,m⟩:=T.obj l o p d a;exact⟨k,u,Bl g,Bl n,m⟩
 shape:=λl o k b q d s x a c el f=>by
  obtain⟨z,y,g,n,m⟩:=T.obj l o _ d a;rw[Bl g]at s;cases s;exact T.shape l o _ b q d g x a c el f
def yj.oB{L}{g}{R}(hD:Sx g)(Q4:base<=w0.w.heap.size){m Z}{i b}{p}{r}{done}{Zq}{s}{k}{a}{w}(I:yj nc P L g R base nt w0 m Z ((i,p,some b)::r) done Zq s k a w)
  {o:Oper} (O:g[i]?=some o) {y:Ob} {mk:Nat->D} (hL:G3 P o y mk) (W:Zn nt o.dst=true) :
  ∃Z',yj nc P L g R base nt w0 m Z' r (i::done) Zq ⟨Zb s.fr o.dst (mk s.h.length),s.h++[y]⟩ (k++[some (b,0)]) a w:=by
 obtain⟨o',ZG,S,h2,h3,h4,Y⟩:=I.head;rw[O]at ZG;cases ZG;have QC:∀j p q,(j,p,q)∈r->j≠i:=λj p q f e=>dI Y j (oG f) (by rw[e];simp);have Of:=I.late i p b (Ky ..);have dK:∀j p q,(j,p,q)∈r->Wx g j=true->∀x d,g[j]?=some x->x.dst=some d->o.dst≠some d:=λj p q f F x d H n=>hD j i x o d (QC j p q f) F H O n;obtain⟨o1,d,J,ρ,v,obj,g1,g2,g3,g4,g5,g6⟩:=(I.Lh i p b (Ky ..)).run;rw[O]at g1;cases g1;have Og:=(I.Lh i p b (Ky ..)).Xp;have Oh:=(I.Lh i p b (Ky ..)).low;obtain⟨C,a0,N,B,M⟩:=hL;have K:=N ρ J;rw[g3]at K;simp only[Result.ok.injEq,Next.value.injEq]at K;obtain⟨rfl,U⟩:=K;have Df:obj=C:=by
  have e1:=heap_alloc_new J obj;have e2:=heap_alloc_new J C;rw[U,e2]at e1;exact(Ix e1).symm
 subst Df;have dL:d<nt:=by rw[g2]at W;exact kF W
 have hz:∀c,Z c↔m c/\c≠b/\c ∉ blocks r:=λc=>by rw[I.z c];simp only[blocks,QK,qx]
 have BJ:b ∉ blocks r:=by have:=I.BI;simp only[blocks]at this;exact(ZV.1 this).1
 have V:m b:=I.z0 i p b (Ky ..);have Yh:∀c,free Z k c->free (λc=>m c/\c ∉ blocks r) (k++[some (b,0)]) c:=λc u=>⟨⟨((hz c).1 u.1).1,((hz c).1 u.1).2.2⟩,RV u.2 λq e=>by simp at e;exact((hz c).1 u.1).2.1 e.1.symm⟩;have E:k.length=s.h.length:=I.rel.o.len;have hx:=B (λc=>m c/\c ∉ blocks r) (s.h++[y]) (k++[some (b,0)]) w b g5;have hO:=I.rel.o.oB Yh Og (JY Q4 Oh) hx;have hv:=M (λc=>m c/\c ∉ blocks r) (s.h++[y]) (k++[some (b,0)]) w s.h.length b σ (by rw[<- E];simp);have BK:∀{d v},QD Z s.h k w d v->QD (λc=>m c/\c ∉ blocks r) (s.h++[y]) (k++[some (b,0)]) w d v:=λhr=>hr.Oc (λc u _=>⟨Yh c u,rfl⟩) (λ_ _ _ a b=>⟨Bl a,Bl b⟩) (λ_ _ _ _=>rfl);refine⟨λc=>m c/\c ∉ blocks r,Y,λj f n=>?_,λj f=>?_,I.marks.same λj=>?_,λj p b f=>I.late j p b (J8 _ f),λj p q f=>I.lp j p q (J8 _ f),λc=>Iff.rfl,λj p b f=>I.z0 j p b (J8 _ f),?_,λj p q f F x d H n=>?_,⟨I.rel.nt,I.rel.defers,λt=>?_,hO⟩,⟨I.since.1,?_,⟨λc u=>?_,λl c q e h0=>?_⟩⟩,λj p b' f=>?_⟩;simp only[QK,qx]at n;have:=I.cover j f n.2;simp only[XG,JT,QK]at this;rcases this with (h|h)|h;exact absurd h n.1;exact .inl h;exact .inr h;obtain⟨N,B,M⟩:=I.Oe j f;simp only[XG,JT,QK,qx]at B;exact⟨λh=>by
  rcases QK.1 h with h|h;exact B.1 h;exact N h,B.2,M⟩
 simp only[early,QK,Q1];constructor;rintro ((h|h)|h);exact .inr (.inl h);exact .inl h;exact .inr (.inr h);rintro (h|h|h);exact .inl (.inr h);exact .inl (.inl h);exact .inr h;have:=I.BI;simp only[blocks]at this;exact(ZV.1 this).2;rw[dH (dK j p q f F x d H n)];exact I.Sw j p q (J8 _ f) F x d H n;rw[g2,Zb,Eu];by_cases e:t=d;rw[Qd e,e,g6 dL,<- g4];exact hv;rw[Qc e];exact BK (I.rel.fr t);exact I.since.2.1.snoc Oh y;exact(I.z c).1 (I.since.2.2.new c u) |> λh=>⟨h.1,λQ=>h.2 (by simp only[blocks,QK];exact .inr Q)⟩;rcases Yd e with S|⟨S,Jo⟩;exact(I.z c).1 (I.since.2.2.own l c q S h0) |> λh=>⟨h.1,λQ=>h.2 (by simp only[blocks,QK];exact .inr Q)⟩;simp at Jo;obtain⟨rfl,rfl⟩:=Jo;exact⟨V,BJ⟩;have T:=I.Lh j p b' (J8 _ f);exact⟨T.run,RV T.Xp λq e=>by
  simp at e;exact BJ (by rw[e.1];exact EN.2 ⟨j,p,f⟩),T.low⟩
def Li{j b:Nat}{p:Bool}{c a:List En}{x:En}(h:x∈c++(j,p,some b)::a):x∈c++(j,p,none)::a\/x=(j,p,some b):=by
 rcases Q1.1 h with h|h;exact .inl (Q1.2 (.inl h));rcases QK.1 h with h|h;exact .inr h;exact .inl (Q1.2 (.inr (J8 _ h)))
def Qda{j b:Nat}{p:Bool}{d a:List En}{i c:Nat}{q:Bool}(h:(i,q,some c)∈d++(j,p,none)::a):(i,q,some c)∈d++(j,p,some b)::a:=by
 rcases Q1.1 h with h|h;exact Q1.2 (.inl h);rcases QK.1 h with h|h;cases h;exact Q1.2 (.inr (J8 _ h))
def yj.exec{L:Jf}{n:Array Oper}{R:List Nat}(hD:Sx n)(Q4:base<=w0.w.heap.size){x Z:Nat->Prop}{j:Nat}{p:Bool}{m g:List En}{done:List Nat}{U:Array Bool}{s:St}{r:List Pl}{a:Act}{w:World}(I:yj nc P L n R base nt w0 x Z (m++(j,p,none)::g) done U s r a w)
  {o:Oper} (F:n[j]?=some o) (B:Wx n j=true) {d:Nat} (y:o.dst=some d) {v:Value} {f:Obj} (Za:(execOp a.eval o).run P w=.ok (.value v) (w.alloc f)) (Q:∀i p' q,(i,p',q)∈m++(j,p,none)::g->q≠none->i≠j) :
  ∃Z',yj nc P L n R base nt w0 x Z' (m++(j,p,some w.heap.size)::g) done (U.setIfInBounds j true) s r (a.put o.dst v) (w.alloc f):=by
 have Qb:=(WK.1 F).1;have N:(j,p,none)∈m++(j,p,none)::g:=Q1.2 (.inr (Ky ..));have e:∀k,k<w.heap.size->(w.alloc f).heap[k]? = w.heap[k]? := λk hk=>wW w f k hk;have Y:(w.alloc f).heap[w.heap.size]?=some f:=heap_alloc_new w f;have JA:w.heap.size<(w.alloc f).heap.size:=kr Y;have q9:base<=w.heap.size:=JY Q4 I.since.1.size;have Ap:∀c,c∈blocks (m++(j,p,none)::g)->c<w.heap.size:=λc C=>by
  obtain⟨i,q,hq⟩:=EN.1 C;obtain⟨_,_,_,_,_,_,_,_,_,_,h5,_⟩:=(I.Lh i q c hq).run;exact kr h5
 have BJ:w.heap.size ∉ blocks (m++(j,p,none)::g):=λh=>by have:=Ap _ h;omega
 have dM:x w.heap.size:=((I.z _).1 (I.since.2.2.new _ (QB _))).1;have KX:∀c,c∈blocks (m++(j,p,some w.heap.size)::g)↔c∈blocks (m++(j,p,none)::g)\/c=w.heap.size:=λc=>by
  rw[EN,EN];constructor;rintro⟨i,q,h⟩;rcases Li h with h|h;exact .inl ⟨i,q,h⟩;cases h;exact .inr rfl;rintro (⟨i,q,h⟩|rfl);exact⟨i,q,Qda h⟩;exact⟨j,p,Q1.2 (.inr (Ky ..))⟩
 have O:∀c,(x c/\c ∉ blocks (m++(j,p,some w.heap.size)::g))↔Z c/\c≠w.heap.size:=λc=>by
  rw[I.z c,KX c,qx,and_assoc]
 have V:∀c,free Z r c->c<w.heap.size->free (λc=>x c/\c ∉ blocks (m++(j,p,some w.heap.size)::g)) r c/\(w.alloc f).heap[c]? = w.heap[c]? := λc C Qb=>⟨⟨(O c).2 ⟨C.1,ω⟩,C.2⟩,e c Qb⟩;have BK:∀{d v},QD Z s.h r w d v->QD (λc=>x c/\c ∉ blocks (m++(j,p,some w.heap.size)::g)) s.h r (w.alloc f) d v:=λhr=>hr.Oc V (λ_ _ _ a b=>⟨a,b⟩) (λl b q hp=>e b (I.rel.o.lt hp).1);have T:Tr s.h r w s.h r (w.alloc f):=Tr.ext I.rel.o e;refine⟨λc=>x c/\c ∉ blocks (m++(j,p,some w.heap.size)::g),?_,?_,?_,(I.marks.set Qb).same λi=>?_,λi q b h=>?_,λi q u h B=>?_,λc=>Iff.rfl,λi q b h=>?_,oD _ BJ I.BI,λi q u h W E J M K=>?_,⟨by rw[y];simp[Act.put,I.rel.nt],by rw[y];exact I.rel.defers,λt=>?_,I.rel.o.Oc V e⟩,⟨I.since.1.trans (EA q9 f),I.since.2.1.trans T,⟨λc C=>(O c).2 ⟨I.since.2.2.new c ω,ω⟩,λl c q H h0=>(O c).2 ⟨I.since.2.2.own l c q H h0,by have:=(I.rel.o.lt H).1;omega⟩⟩⟩,λi q b h=>?_⟩;have:=I.sched;simpa[YG] using this;have:=I.cover;simpa[XG] using this;have:=I.Oe;simpa[XG] using this;simp only[QK,Q1,Lg];constructor;rintro (rfl|⟨q,b,h⟩|h);exact .inl ⟨p,_,.inr (.inl rfl)⟩;exact .inl ⟨q,b,by have:=Qda (b:=w.heap.size) (Q1.2 (h.imp id QK.2));simpa using this⟩;exact .inr h;rintro (⟨q,b,h⟩|h);rcases Li (Q1.2 (h.imp id QK.2)) with h|h;exact .inr (.inl ⟨q,b,by simpa using h⟩);cases h;exact .inl rfl;exact .inr (.inr h);rcases Li h with h|h;exact I.late i q b h;cases h;exact B;rcases Li h with h|h;exact I.lp i q u h B;cases h;exact I.lp j p none N B;rcases Li h with h|h;exact I.z0 i q b h;cases h;exact dM;rcases Li h with h|h;exact I.Sw i q u h W E J M K;cases h;exact I.Sw j p none N W E J M K;by_cases S:t=d;have:=I.Sw j p none N B o d F y;rw[S,this];exact .cl _ _ (.undef _);rw[Qc7 (by rw[y];exact λh=>S (Ix h).symm)];exact BK (I.rel.fr t);rcases Li h with h|h;refine(I.Lh i q b h).step T v λE J M K=>?_;exact hD i j E o J (Q i q (some b) h σ) (I.late i q b h) M F K;cases h;refine⟨⟨o,d,w,a.eval,v,f,F,y,Za,rfl,Y,λhn=>?_⟩,λl q H=>?_,I.since.1.size⟩;have:d<a.tmps.size:=by rw[I.rel.nt];exact hn
 simp[Act.put,y,x5,this];have:=(I.rel.o.lt H).1;omega
def ER(nc:List Nat)(P:Program)(base nt:Nat)(w0:Start)(a:Array Oper)(K:St->Prop):Nat->List Nat->List Nat->St->Prop
 | 0,_,_,s=>K s
 | n+1,R,done,s=>∀i∈R,∀o,a[i]?=some o->kH done o.after.toList=false->AX P base nt w0 (ER nc P base nt w0 a K n (R.erase i) (i::done)) [(false,YZ (K7 i nc) o,guardOf a o)] s
def Aw(a:Array Oper):List Nat->List Nat->Bool
 | [],_=>true
 | i::r,done=>(match a[i]? with
  | some o=>!kH done o.after.toList
  | none=>false)&&Aw a r (i::done)
def oH{done b}(h:∀j∈done,j∈b):∀{l:List Edge},kH done l=false->kH b l=false
 | [],_=>rfl
 | e::r,a=>by
  simp only[kH,Gq,Gm,Bool.not_eq_false']at a ⊢;exact⟨a.1.imp id λk=>xi.2 (h _ (xi.1 k)),oH h a.2⟩
def Qdb{a}:∀{R done e:List Nat},(∀j∈done,j∈e)->Aw a R done=true->Aw a R e=true
 | [],_,_,_,_=>rfl
 | i::r,done,e,h,d=>by
  simp only[Aw,ZE]at d ⊢;refine⟨?_,Qdb (λj c=>by
   rcases QK.1 c with rfl|c;exact Ky ..;exact J8 _ (h j c)) d.2⟩
  have b:=d.1;cases f:a[i]? with
  | none=>rw[f]at b;cases b
  | some o=>
   rw[f]at b;simp only[qv]at b ⊢;exact oH h b
def Qdc{a}{j}:∀{R done:List Nat},Aw a R done=true->Aw a (R.erase j) (j::done)=true
 | [],_,_=>rfl
 | i::r,done,h=>by
  simp only[Aw,ZE]at h;by_cases d:i=j;subst d;rw[List.erase_cons_head];exact h.2;rw[List.erase_cons_tail (by simpa using d)];simp only[Aw,ZE];refine⟨?_,Qdb (λk b=>?_) (Qdc (j:=j) h.2)⟩;have h1:=h.1;cases c:a[i]? with
  | none=>rw[c]at h1;cases h1
  | some o=>
   rw[c]at h1;simp only[qv]at h1 ⊢;exact oH (λk b=>J8 _ b) h1
  simp only[QK]at b ⊢;rcases b with h1|h1|h1;exact .inr (.inl h1);exact .inl h1;exact .inr (.inr h1)
def QoO{c:Array Oper}(W:base<=w0.w.heap.size){F}{Z}{i}{o}(u:c[i]?=some o){s:St}{k}{a}{w}(r:Rel Z base nt s k a w)(b:Va Z base w0 s.h k w)
  (h:AX P base nt w0 F [(false,YZ (K7 i nc) o,guardOf c o)] s):wpOp P c (λ_ _ _=>False) i (λm f=>xj nc c i w f/\∃g j,F g/\Rel Z base nt g j m f/\Va Z base w0 g.h j f) a w:=by
 have skip:∀(e:St),e.h=s.h->Rel Z base nt e k a w->Xq (guardOf c o) a.tmps=false->Zn nt (YZ (K7 i nc) o).dst=true->F ⟨Zb e.fr (YZ (K7 i nc) o).dst (.raw Go.undef),e.h⟩->_:=λe H z B N E=>by
  have n:YieldsIf P c (λ_:World=>True) o Go.undef a:=.inr ⟨by rw[NY];exact B,rfl⟩;have V:Rel Z base nt ⟨Zb e.fr o.dst (.raw Go.undef),e.h⟩ k (a.put o.dst Go.undef) w:=z.skip N;exact n.wpOp (P:=P) (Q:=λ_ _ _=>False) (K:=λm f=>xj nc c i w f/\∃g j,F g/\Rel Z base nt g j m f/\Va Z base w0 g.h j f) u trivial ⟨by rw[Le u];exact .ext (Ext.refl _),_,k,E,V,by rw[show (⟨Zb e.fr o.dst (.raw Go.undef),e.h⟩:St).h=s.h from H];exact b⟩
 have J:∀(e:St),e.h=s.h->Rel Z base nt e k a w->Xq (guardOf c o) a.tmps=true->Xi P base nt w0 false (YZ (K7 i nc) o) F e->wpOp P c (λ_ _ _=>False) i (λm f=>xj nc c i w f/\∃g j,F g/\Rel Z base nt g j m f/\Va Z base w0 g.h j f) a w:=λe H z B E=>by
  unfold wpOp;simp only[u,NY,B,Vu];refine .inl ?_;have:=E.ae W Z trivial k a w z (by rw[H];exact b);rw[Qc4]at this;refine Oper.wp_mono (λm f O=>?_) this;obtain⟨R,d,h',j,v,S,M,U,T,rfl⟩:=O;exact⟨by rw[Le u];exact R,_,j,S,M,U⟩
 simp only[AX]at h;split at h;rename_i l;exact J s rfl r (by rw[l];rfl) h;rename_i x l;exact skip s rfl r (by rw[l];rfl) h.1 h.2;rename_i t x l;split at h;rename_i y n;have p:=r.fr t;rw[n]at p;have C:=Ju p;have I:=ov C;by_cases q:y=x;refine J ⟨put s.fr t (.raw (.bool x)),s.h⟩ rfl (r.tell (t:=t) (d:=.raw (.bool x)) (by rw[C,q];exact .cl _ _ (.raw _))) ?_ (h.1 q);rw[l];simp[Xq,I,q];have L:y=(!x):=by cases x<;>cases y<;>simp_all
 have:=h.2 L;refine skip ⟨put s.fr t (.raw (.bool !x)),s.h⟩ rfl (r.tell (t:=t) (d:=.raw (.bool (!x))) (by rw[C,L];exact .cl _ _ (.raw _))) ?_ this.1 this.2;rw[l];simp[Xq,I,q];rename_i Y n;have p:=r.fr t;rw[n]at p;refine skip s rfl r ?_ h.1 h.2;rw[l];simp[Xq,ox (Ju p)];exact h.elim
def oI{c:Array Oper}{K}(J:base<=w0.w.heap.size){Z}:∀(n:Nat) (R done:List Nat) (l:Array Bool) (s:St) (f:List Pl) (a:Act) (w:World),R.length=n->Marks c l done->(∀j,j<c.size->j ∉ done->j∈R)->(∀j∈R,j ∉ done)->R.Nodup->Aw c R done=true ->
  Rel Z base nt s f a w->Va Z base w0 s.h f w->ER nc P base nt w0 c K n R done s->Au P c (λa w=>∃s f,K s/\Rel Z base nt s f a w/\Va Z base w0 s.h f w) (xj nc c) n l a w
 | 0,R,done,l,s,f,a,w,t,M,y,B,C,q,r,b,h=>by
  have:R=[]:=El.1 t;subst this;refine⟨mZ.2 λj m=>?_,s,f,h,r,b⟩;obtain⟨g,o,d,_⟩:=mem_ready.1 m;have Qb:=(WK.1 d).1;have:=y j Qb ((M.get j Qb).1 g);cases this
 | n+1,R,done,l,s,f,a,w,t,M,y,B,C,q,r,b,h=>by
  have ready:∀j o,c[j]?=some o->j ∉ done->kH done o.after.toList=false->j∈Region.ready .any c l:=λj o d m v=>by
   have Qb:=(WK.1 d).1;exact mem_ready.2 ⟨(M.get j Qb).2 m,o,d,λe x z=>(M.get' e.on).2 ⟨dF v e (by simpa using x) z,M.lt _ (dF v e (by simpa using x) z)⟩⟩
  refine⟨λe=>?_,λj m=>?_⟩;cases R with
  | nil=>cases t
  | cons i rr=>
   simp only[Aw,ZE]at q;have g:=q.1;split at g;rename_i o d;have:=ready i o d (B i (Ky ..)) (by simpa using g);rw[e]at this;cases this;cases g
  .obtain⟨g,o,d,KB⟩:=mem_ready.1 m;have Qb:=(WK.1 d).1;have F:=(M.get j Qb).1 g;have I:=y j Qb F;have v:kH done o.after.toList=false:=by
    cases z:kH done o.after.toList;rfl;obtain⟨e,x,H,EP⟩:=Qc1 z;exact absurd ((M.get' e.on).1 (KB e (by simpa using x) H)).1 EP
   refine wpOp_mono (λW L U=>?_) (QoO J d r b (h j I o d v));obtain⟨T,N,Y,Q,O,V⟩:=U;refine⟨T,oI J n (R.erase j) (j::done) (l.setIfInBounds j true) N Y W L (by rw[List.length_erase_of_mem I,t];rfl) (M.set Qb) (λk u p=>?_) (λk u p=>?_) (C.erase _) (Qdc q) O V Q⟩;simp only[QK,qx]at p;exact(List.mem_erase_of_ne p.1).2 (y k u p.2);have E:=List.mem_of_mem_erase u;rcases QK.1 p with rfl|S;exact(C.not_mem_erase) u;exact B k E S
def QoS{L}(b1:Z8 P L){c:Array Oper}{R U:List Nat}{K}(N7:Region.noSelect c=true)(Q4:base<=w0.w.heap.size)(hD:Sx c)(hL:∀j o,c[j]?=some o->Wx c j=true->(∃ob mk,G3 P o ob mk)/\∃d,o.dst=some d){H}(a2:R.Nodup)(a1:Aw c R U=true):
  ∀(m:Nat) (l:List En) (done:List Nat) (E:Array Bool) (s:St) (g:List Pl) (a:Act) (w:World) (Z:Nat->Prop),l.length+YH l<=m->yj nc P L c R base nt w0 H Z l done E s g a w->(∀j,j∈U↔j∈XG l\/j∈done)->AX P base nt w0 (ER nc P base nt w0 c K R.length R U) (Vj nc c (YG l)) s ->
   Au P c (λa w=>∃s g,K s/\Rel H base nt s g a w/\Va H base w0 s.h g w) (xj nc c) (R.length+YH l) E a w:=by
 intro m;induction m with
 | zero=>
  intro l done E s g a w Z Y I Sy h;cases l with
  | cons x r=>simp at Y
  | nil=>
   have hZ:Z=H:=funext λb=>propext (by rw[I.z b];simp[blocks]);subst hZ;have Lj:∀j,j∈U↔j∈done:=λj=>by rw[Sy j];simp[XG]
   refine oI Q4 R.length R U E s g a w rfl (I.marks.same λj=>by rw[Lj j];simp[early]) (λj B C=>?_) (λj B=>by rw[Lj j];exact(I.Oe j B).1) a2 a1 I.rel I.since h;have:=I.cover j B (λh=>C ((Lj j).2 h));simpa[XG] using this
 | succ m ih=>
  intro l done E s g a w Z Y I Sy h;cases l with
  | nil=>
   have hZ:Z=H:=funext λb=>propext (by rw[I.z b];simp[blocks]);subst hZ;have Lj:∀j,j∈U↔j∈done:=λj=>by rw[Sy j];simp[XG]
   refine oI Q4 R.length R U E s g a w rfl (I.marks.same λj=>by rw[Lj j];simp[early]) (λj B C=>?_) (λj B=>by rw[Lj j];exact(I.Oe j B).1) a2 a1 I.rel I.since h;have:=I.cover j B (λh=>C ((Lj j).2 h));simpa[XG] using this
  | cons x r=>
   obtain⟨i,p,q⟩:=x;obtain⟨o,J,Z9,a4,b0,a9,Ai⟩:=I.head;have Qb:=(WK.1 J).1;have za:Vj nc c (YG ((i,p,q)::r))=(p,YZ (K7 i nc) o,guardOf c o)::Vj nc c (YG r):=by simp[Vj,YG,J]
   rw[za]at h;have EO:∀j∈early ((i,p,q)::r),Wx c j=true:=λj B=>by obtain⟨p',b,S⟩:=Lg.1 B;exact I.late j p' b S
   have QC:∀j p q,(j,p,q)∈r->j≠i:=λj p q B e=>dI Ai j (oG B) (by rw[e];simp);have dQ:∀j,j∈U↔j∈XG r\/j∈i::done:=λj=>by
    rw[Sy j];simp only[XG,JT,QK];constructor;rintro ((h|h)|h);exact .inr (.inl h);exact .inl h;exact .inr (.inr h);rintro (h|h|h);exact .inl (.inr h);exact .inl (.inl h);exact .inr h
   cases q with
   | some b=>
    have Of:=I.late i p b (Ky ..);obtain⟨g1,g2,_⟩:=dJ J Of;have hp:=I.lp i p _ (Ky ..) Of;subst hp;have hg:guardOf c o=none:=by simp[guardOf,g2]
    rw[hg]at h;simp only[AX,Xi]at h;rw[show qB (YZ (K7 i nc) o)=true from g1]at h;obtain⟨ob,mk,h1,h2,h3⟩:=h;obtain⟨Z',I'⟩:=I.oB hD Q4 J (show G3 P o ob mk from h1) h2;have:=ih r (i::done) E _ _ a w Z' (by simp only[Kw,YH]at Y;omega) I' dQ h3;exact this
   | none=>
    have oJ:i ∉ early ((i,p,none)::r)++done:=λY=>by
     rcases Q1.1 Y with h1|h1;obtain⟨p',b,S⟩:=Lg.1 h1;rcases QK.1 S with h2|h2;cases h2;exact QC _ _ _ h2 rfl;exact Z9 h1
    have oK:i∈Region.ready .any c E:=mem_ready.2 ⟨(I.marks.get i Qb).2 oJ,o,J,λe u S=>(I.marks.get' e.on).2 ⟨Q1.2 (.inr (a4 e u S)),I.marks.lt _ (Q1.2 (.inr (a4 e u S)))⟩⟩;have NP:r.length+YH r<=m:=by simp only[Kw,YH]at Y;omega
    have first:p=true->∀(f:St) (v:Value),f.h=s.h->YieldsIf P c (λn=>(still L o=true\/Ext w n)\/(Dd o=true/\jx w n)) o v a ->
      Rel Z base nt f g (a.put o.dst v) w->(∀d,o.dst≠some d->get s.fr d=.undef->get f.fr d=.undef)->AX P base nt w0 (ER nc P base nt w0 c K R.length R U) (Vj nc c (YG r)) f->Au P c (λa w=>∃s g,K s/\Rel H base nt s g a w/\Va H base w0 s.h g w) (xj nc c) (R.length+YH r+1) E a w:=by
     intro hp f v hh O W hu Q;have I':=I.next hD J v (s':=f) (by rw[hh];exact Tr.refl _ _ _) W (by rw[hh];exact I.since) hu;have dS:=ih r (i::done) (E.setIfInBounds i true) f g (a.put o.dst v) w Z NP I' dQ Q;refine QoH (λw=>by rw[Le J];exact .ext (Ext.refl _)) J (Region.noSelect_spec N7) _ E a w (.inl (.inr (Ext.refl _))) (λj oj B vV a6=>?_) oK O dS;have Sz:=(WK.1 B).1;have SA:=(I.marks.get j Sz).1 a6;have SB:=I.cover j Sz λC=>SA (Q1.2 (.inr C));simp only[XG,JT,QK]at SB;have VC:∃y∈(YG r).map (λN=>(N.1,N.2,c[N.1]?))++Lf c R,y.1=j/\y.2.2=c[j]? := by
      rcases SB with (h|h)|h;exact absurd h vV;obtain⟨y,zW,zX⟩:=Ji.1 h;exact⟨(y.1,y.2.1,c[y.1]?),Q1.2 (.inl (Ji.2 ⟨(y.1,y.2.1),Ji.2 ⟨y,zW,rfl⟩,rfl⟩)),zX,by rw[zX]⟩;exact⟨(j,false,c[j]?),Q1.2 (.inr (Ji.2 ⟨j,h,rfl⟩)),rfl,rfl⟩
     obtain⟨y,zW,zX,b2⟩:=VC;have:=Qc8 I.marks EO (r:=(YG r).map (λN=>(N.1,N.2,c[N.1]?))++Lf c R) (λx hx=>by
      rcases Q1.1 hx with hx|hx;obtain⟨z,_,rfl⟩:=Ji.1 hx;rfl;obtain⟨z,_,rfl⟩:=Ji.1 hx;rfl) (b0 hp).2 y zW oj (by rw[zX];exact B)
     rw[zX]at this;refine this.imp id λh=>⟨λw1 w2 hc hs=>?_,h.2⟩;rw[Le B]at hc;rcases h.1 with (h1|h1)|h1;have u:=hc.calm (by rw[QoJ];simp[h1.1,h1.2]);rcases hs with (hs|hs)|hs;exact .inl (.inl hs);exact .inl (.inr (hs.trans u));exact .inr ⟨hs.1,hs.2.trans (.ext u)⟩;exact .inl (.inl h1);have u:=hc.ins (by simpa[De,YZ] using h1.2);rcases hs with (hs|hs)|hs;exact .inl (.inl hs);exact .inr ⟨h1.1,(jx.ext hs).trans u⟩;exact .inr ⟨hs.1,hs.2.trans u⟩
    have V:p=false->wpOp P c (λ_ _ _=>False) i (λa' n=>xj nc c i w n/\Au P c (λa w=>∃s g,K s/\Rel H base nt s g a w/\Va H base w0 s.h g w) (xj nc c) (R.length+YH r) (E.setIfInBounds i true) a' n) a w ->
      Au P c (λa w=>∃s g,K s/\Rel H base nt s g a w/\Va H base w0 s.h g w) (xj nc c) (R.length+YH r+1) E a w:=by
     intro hp hi;refine⟨λe=>(by rw[e]at oK;cases oK),λj B=>?_⟩;by_cases vV:j=i;subst vV;exact hi
     .obtain⟨dB,oj,KY,KB⟩:=mem_ready.1 B;have Sz:=(WK.1 KY).1;have SA:=(I.marks.get j Sz).1 dB;have SB:=I.cover j Sz λC=>SA (Q1.2 (.inr C));simp only[XG,JT,QK]at SB;have a3:=λx hx=>Qc6 (r:=(YG r).map (λN=>(N.1,N.2,c[N.1]?))++Lf c R) (λx hx=>by
       rcases Q1.1 hx with hx|hx;obtain⟨z,_,rfl⟩:=Ji.1 hx;rfl;obtain⟨z,_,rfl⟩:=Ji.1 hx;rfl) (a9 hp) x hx
      have a0:Od c done i oj.after.toList=true->False:=λh1=>by
       obtain⟨e,u,S,EP,ES⟩:=Qc5 h1;have h2:=((I.marks.get' e.on).1 (KB e (by simpa using u) S)).1;rcases Q1.1 h2 with h3|h3;rcases ES with h4|h4;rw[EO _ h3]at h4;cases h4;exact oJ (Q1.2 (.inl (by rw[<- h4];exact h3)));exact EP h3
      have dP:j ∉ R:=λh=>by
       rcases a3 (j,false,c[j]?) (Q1.2 (.inr (Ji.2 ⟨j,h,rfl⟩))) oj KY with h1|h1;have h9:Wx c j=true:=h1;rw[(I.Oe j h).2.2]at h9;cases h9;exact a0 h1
      obtain⟨y,zW,zX⟩:=Ji.1 ((SB.resolve_right dP).resolve_left vV);obtain⟨M,pj,qj⟩:=y;obtain rfl:M=j:=zX;have a7:qj=none:=by
       cases qj with
       | none=>rfl
       | some b=>exact absurd (Q1.2 (.inl (Lg.2 ⟨pj,b,J8 _ zW⟩))) SA
      subst a7;have oL:Wx c M=true:=by
       rcases a3 (M,pj,c[M]?) (Q1.2 (.inl (Ji.2 ⟨(M,pj),Ji.2 ⟨_,zW,rfl⟩,rfl⟩))) oj KY with h1|h1;exact h1;exact(a0 h1).elim
      obtain⟨g1,g2,_⟩:=dJ KY oL;obtain⟨⟨ob,mk,obj,a5,k1,_⟩,d,C⟩:=hL M oj KY oL;obtain⟨F,r2,W⟩:=List.append_of_mem zW;have hl:(i,p,none)::r=((i,p,none)::F)++(M,pj,none)::r2:=by rw[W];rfl
      have I0:=I;rw[hl]at I0;obtain⟨Z',I'⟩:=I0.exec hD Q4 KY oL C (k1 a.eval w) (λi' p' q' Y hq e=>by
       subst e;rw[<- hl]at Y;cases q' with
       | none=>exact hq rfl
       | some b=>exact SA (Q1.2 (.inl (Lg.2 ⟨p',b,Y⟩))))
      have hc:YH r=YH (((i,p,none)::F)++(M,pj,some w.heap.size)::r2):=by
       have:=oC (j:=M) (p:=pj) (b:=w.heap.size) (l2:=r2) ((i,p,none)::F);rw[<- hl]at this;simp only[YH]at this;omega
      have oM:YG (((i,p,none)::F)++(M,pj,some w.heap.size)::r2)=YG ((i,p,none)::r):=by rw[hl];simp[YG]
      have dS:=ih _ done (E.setIfInBounds M true) s g (a.put oj.dst (a5 w.heap.size)) (w.alloc obj) Z' (by
       have h1:(((i,p,none)::F)++(M,pj,some w.heap.size)::r2).length=r.length+1:=by rw[W];simp
       have h2:r.length+1+(YH r+1)<=m+1:=Y;rw[h1,<- hc];omega) I' (λk=>by rw[Sy k];rw[hl];simp[XG]) (by rw[oM,za];exact h)
      rw[<- hc]at dS;unfold wpOp;simp only[KY];have hw:Region.wanted oj (yielded c a.tmps)=true:=by simp[Region.wanted,g2]
      rw[Qd hw];refine .inl ?_;unfold Oper.wp;rw[k1 a.eval w];simp only[Oper.upon_value];exact⟨by rw[Le KY];exact .ext λk Q=>wW w obj k Q,dS⟩
    have skip:∀(f:St),f.h=s.h->Rel Z base nt f g a w->(∀d,get s.fr d=.undef->get f.fr d=.undef)->Xq (guardOf c o) a.tmps=false->Zn nt (YZ (K7 i nc) o).dst=true->AX P base nt w0 (ER nc P base nt w0 c K R.length R U) (Vj nc c (YG r)) ⟨Zb f.fr (YZ (K7 i nc) o).dst (.raw Go.undef),f.h⟩ ->
      Au P c (λa w=>∃s g,K s/\Rel H base nt s g a w/\Va H base w0 s.h g w) (xj nc c) (R.length+YH r+1) E a w:=by
     intro f hh F hu hw ht Q;have O:YieldsIf P c (λn=>(still L o=true\/Ext w n)\/(Dd o=true/\jx w n)) o Go.undef a:=.inr ⟨by rw[NY];exact hw,rfl⟩;have Zt:Rel Z base nt ⟨Zb f.fr o.dst (.raw Go.undef),f.h⟩ g (a.put o.dst Go.undef) w:=F.skip ht;have yl:∀d,o.dst≠some d->get s.fr d=.undef->get (Zb f.fr o.dst (.raw Go.undef)) d=.undef:=λd C h=>by rw[dH C];exact hu d h
     cases p with
     | true=>exact first rfl ⟨Zb f.fr o.dst (.raw Go.undef),f.h⟩ Go.undef hh O Zt yl Q
     | false=>
      refine V rfl (O.wpOp J (.inl (.inr (Ext.refl _))) ⟨by rw[Le J];exact .ext (Ext.refl _),?_⟩);have I':=I.next hD J Go.undef (s':=⟨Zb f.fr o.dst (.raw Go.undef),f.h⟩) (by rw[show (⟨Zb f.fr o.dst (.raw Go.undef),f.h⟩:St).h=s.h from hh];exact Tr.refl _ _ _) Zt (by rw[show (⟨Zb f.fr o.dst (.raw Go.undef),f.h⟩:St).h=s.h from hh];exact I.since) yl;exact ih r (i::done) _ _ g _ w Z NP I' dQ Q
    have go:∀(f:St),f.h=s.h->Rel Z base nt f g a w->(∀d,get s.fr d=.undef->get f.fr d=.undef)->Xq (guardOf c o) a.tmps=true->Xi P base nt w0 p (YZ (K7 i nc) o) (AX P base nt w0 (ER nc P base nt w0 c K R.length R U) (Vj nc c (YG r))) f ->
      Au P c (λa w=>∃s g,K s/\Rel H base nt s g a w/\Va H base w0 s.h g w) (xj nc c) (R.length+YH r+1) E a w:=by
     intro f hh F hu hw Q;cases p with
     | true=>
      obtain⟨d,ct,SC,ht,Q⟩:=Q;have KB:∃v,QD Z f.h g w d v/\(∀n:World,(∀b,b<w.heap.size->n.heap[b]? = w.heap[b]?)->(execOp a.eval o).run P n=.ok (.value v) n)/\(Dd o=true->∀n:World,jx w n->(execOp a.eval o).run P n=.ok (.value v) n):=by
       cases SD:Dd o;obtain⟨v,hv,Za⟩:=ct Z g a w F;exact⟨v,hv,Za,λh=>by cases h⟩;obtain⟨v,hv,Za⟩:=SC (by simpa[Dd,YZ] using SD) Z g a w F;exact⟨v,hv,λn u=>Za n (.ext u),λ_=>Za⟩
      obtain⟨v,hv,Za,a8⟩:=KB;have O:YieldsIf P c (λn=>(still L o=true\/Ext w n)\/(Dd o=true/\jx w n)) o v a:=.inl ⟨by rw[NY];exact hw,λn u=>u.elim (λu=>u.elim (λhs=>QoG b1 hs (Za w λ_ _=>rfl) n) (λu=>Za n u)) (λu=>a8 u.1 n u.2)⟩;have r2:Rel Z base nt ⟨Zb f.fr o.dst d,f.h⟩ g (a.put o.dst v) w:=by
       cases C:o.dst with
       | none=>exact F
       | some t=>have ht:Zn nt o.dst=true:=ht;rw[C]at ht;exact F.to (Tr.ext F.o λ_ _=>rfl) F.o (kF ht) hv
      exact first rfl ⟨Zb f.fr o.dst d,f.h⟩ v hh O r2 (λd' C h=>by rw[dH C];exact hu d' h) Q
     | false=>
      refine V rfl ?_;unfold wpOp;simp only[J,NY,hw,Vu];refine .inl ?_;have:=Q.ae Q4 Z trivial g a w F (by rw[hh];exact I.since);rw[Qc4]at this;refine Oper.wp_mono (λa' n hq=>?_) this;obtain⟨u,d,h',Qk,v,hF,r',b',T,rfl⟩:=hq;refine⟨by rw[Le J];exact u,?_⟩;have I':=I.next hD J v (s':=⟨Zb f.fr o.dst d,h'⟩) (by rw[hh]at T;exact T) r' b' (λd' C h=>by rw[dH C];exact hu d' h);exact ih r (i::done) _ _ Qk _ n Z NP I' dQ hF
    show Au P c _ (xj nc c) (R.length+YH r+1) E a w;simp only[AX]at h;split at h;rename_i hg;exact go s rfl I.rel (λ_ h=>h) (by rw[hg];rfl) h;rename_i x hg;exact skip s rfl I.rel (λ_ h=>h) (by rw[hg];rfl) h.1 h.2;rename_i t x hg;split at h;rename_i y O;have W:=I.rel.fr t;rw[O]at W;have hv:=Ju W;have S:=ov hv;have BG:∀(e:D) d,get s.fr d=.undef->get (put s.fr t e) d=.undef:=λe d h=>by
     rw[Eu,Qc (λe=>by rw[e,O]at h;cases h)];exact h
    by_cases vO:y=x;refine go ⟨put s.fr t (.raw (.bool x)),s.h⟩ rfl (I.rel.tell (t:=t) (d:=.raw (.bool x)) (by rw[hv,vO];exact .cl _ _ (.raw _))) (BG _) ?_ (h.1 vO);rw[hg];simp[Xq,S,vO];have GV:y=(!x):=by cases x<;>cases y<;>simp_all
    have:=h.2 GV;refine skip ⟨put s.fr t (.raw (.bool !x)),s.h⟩ rfl (I.rel.tell (t:=t) (d:=.raw (.bool (!x))) (by rw[hv,GV];exact .cl _ _ (.raw _))) (BG _) ?_ this.1 this.2;rw[hg];simp[Xq,S,vO];rename_i vs O;have W:=I.rel.fr t;rw[O]at W;refine skip s rfl I.rel (λ_ h=>h) ?_ h.1 h.2;rw[hg];simp[Xq,ox (Ju W)];exact h.elim
def Qdi:Option Nat->Option Nat->Bool
 | some a,some b=>!Nat.beq a b
 | _,_=>true
def Qdj(a:Array Oper):Bool:=(List.range a.size).all λi=>!Wx a i || (List.range a.size).all λj=>Nat.beq i j || Qdi ((a[i]?).bind (·.dst)) ((a[j]?).bind (·.dst))
def Qdk:D->Bool
 | .undef=>true
 | _=>false
def BL(a:Array Oper)(b:List (Nat × D)):Bool:=(List.range a.size).all λi=>!Wx a i || (match (a[i]?).bind (·.dst) with|some d=>Qdk (get b d)|none=>true)
def Qdl(L:Jf)(a:Array Oper):Bool:=a.toList.all λo=>match o.op with
 | .alloc t=>(ty L t).isSome&&o.dst.isSome
 | .makeMap _ none=>o.dst.isSome
 | _=>true
def dU(a:Array Oper)(l:List (Nat × Bool)):List Nat->Bool
 | []=>true
 | i::r=>!K7 i r&&!K7 i (l.map (·.1))&&!Wx a i&&dU a l r
def dV{a}{l:List (Nat × Bool)}:∀{R:List Nat},dU a l R=true->R.Nodup/\∀i∈R,i ∉ l.map (·.1)/\Wx a i=false
 | [],_=>⟨List.nodup_nil,σ⟩
 | i::r,h=>by
  simp only[dU,ZE,qv]at h;obtain⟨⟨⟨e,d⟩,m⟩,k⟩:=h;obtain⟨g,f⟩:=dV k;refine⟨ZV.2 ⟨λb=>(by rw[xi.2 b]at e;cases e),g⟩,λj c=>?_⟩;rcases QK.1 c with rfl|c;exact⟨λb=>(by rw[xi.2 b]at d;cases d),m⟩;exact f j c
def Dg(nc:List Nat)(L:Jf)(a:Array Oper)(l:List (Nat × Bool))(R:List Nat):Bool:=Region.noSelect a&&Nat.beq (R.length+l.length) a.size&&dD (l.map (·.1)++R) a.size&&EM nc L a R (l.map λb=>(b.1,b.2,a[b.1]?)) []&&Qdj a&&Qdl L a&&dU a l R&&Aw a R (l.map (·.1))
def dW(L:Jf)(a:Array Oper)(l:List (Nat × Bool)):Bool:=Dg [] L a l []
def QoZ{a}(h:Qdj a=true):Sx a:=by
 intro i j o n d m k e c l b;have g:=qV.1 h i (RH.2 (WK.1 e).1);rw[k,Be,Gn]at g;have f:=qV.1 g j (RH.2 (WK.1 c).1);simp only[e,c,bu,l,b,Qdi,ND,Be,Bool.or_false,Wo]at f;exact m f
def Qo1{a:Array Oper}{e}(h:BL a e=true):∀i o d,Wx a i=true->a[i]?=some o->o.dst=some d->get e d=.undef:=by
 intro i o d f c g;have b:=qV.1 h i (RH.2 (WK.1 c).1);rw[f]at b;simp only[Be,Gn,c,bu,g]at b;unfold Qdk at b;split at b;assumption;cases b
def Qo2{P}{L}(n:Z8 P L){a:Array Oper}(h:Qdl L a=true):∀j o,a[j]?=some o->Wx a j=true->(∃i mk,G3 P o i mk)/\∃d,o.dst=some d:=by
 intro j o f m;have c:=(dJ f m).1;have l:o∈a.toList:=by have:=Array.mem_of_getElem? f;simpa using this
 have b:=qV.1 h o l;unfold qB at c;cases e:o.op<;>rw[e]at c b<;>first|cases c|skip
 rename_i t;simp only[ZE]at b;obtain⟨y,k⟩:=Er.1 b.1;exact⟨⟨_,_,Qc2 n e k⟩,Er.1 b.2⟩;rename_i t g;cases g with
 | some x=>cases c
 | none=>exact⟨⟨_,_,Qc3 e .i64⟩,Er.1 b⟩
def Qdm{L}{a:Array Oper}{R}:∀{l:List (Nat × Bool)} {done:List Nat},EM nc L a R (l.map λb=>(b.1,b.2,a[b.1]?)) done=true->∀i p,(i,p)∈l->Wx a i=true->p=false
 | [],_,_,_,_,h,_=>by cases h
 | (j,q)::r,done,h,i,p,e,d=>by
  simp only[JT]at h;cases c:a[j]? with
  | none=>rw[c]at h;cases h
  | some o=>
   rw[c]at h;simp only[EM,ZE,qv]at h;rcases QK.1 e with h1|h1;cases h1;cases q with
   | false=>rfl
   | true=>have:=h.1.2;simp only[ZE,qv,d]at this;cases this.1
   exact Qdm h.2 i p h1 d
def BM(l:List (Nat × Bool)):List En:=l.map λx=>(x.1,x.2,none)
def oN:∀l:List (Nat × Bool),YG (BM l)=l
 | []=>rfl
 | x::r=>congrArg (x::·) (oN r)
def Qdn:∀l,early (BM l)=[]
 | []=>rfl
 | (_,_)::r=>Qdn r
def oO:∀l,blocks (BM l)=[]
 | []=>rfl
 | (_,_)::r=>oO r
def Qdo:∀l,YH (BM l)=l.length
 | []=>rfl
 | (_,_)::r=>by show YH (BM r)+1=_;rw[Qdo r];rfl
def dX{l}{i}{p}{q}(h:(i,p,q)∈BM l):(i,p)∈l/\q=none:=by
 obtain⟨x,hx,e⟩:=Ji.1 h;cases e;exact⟨hx,rfl⟩
def Qdp{L}(n:Z8 P L)(V:base<=w0.w.heap.size){v}{c}{Q}{s:St}(B:P.follows .mixedOrders=true)(l:List (Nat × Bool))(R:List Nat)(t:Dg nc L c l R=true)(E:BL c s.fr=true)(h:AX P base nt w0 (ER nc P base nt w0 c (λs=>Q .normal s) R.length R (l.map (·.1))) (Vj nc c l) s):A P base nt w0 (.region v c true) Q s:=by
 intro Z z g a w r b;simp only[Dg,ZE]at t;obtain⟨⟨⟨⟨⟨⟨⟨T,S⟩,O⟩,u⟩,N⟩,K⟩,J⟩,H⟩:=t;obtain⟨F,c2⟩:=dV J;have f:=RM S;have M:Marks c (Array.replicate c.size false) []:=⟨σ,λj e=>by simp[e],λj=>by
  rcases wU j c.size with m|m;simp[m];simp[m],λj e=>by cases e⟩
 have U:Va Z base w0 s.h g { w with drawn:=w.drawn+1 }:=⟨⟨b.1.os,b.1.tape,b.1.output,b.1.size,b.1.block⟩,⟨b.2.1.JU,b.2.1.obj,b.2.1.shape⟩,⟨b.2.2.new,b.2.2.own⟩⟩;have I:yj nc P L c R base nt w0 Z Z (BM l) [] (Array.replicate c.size false) s g a { w with drawn:=w.drawn+1 }:=by
  refine⟨by rw[oN];exact u,λj e _=>?_,λj e=>⟨σ,by have:=(c2 j e).1;simpa[XG,BM] using this,(c2 j e).2⟩,by rw[Qdn];exact M,λi p b h=>?_,λi p q h k=>Qdm u i p (dX h).1 k,λb=>by rw[oO];simp,λi p b h=>?_,by rw[oO];exact List.nodup_nil,λi p q h k o d x C=>Qo1 E i o d k x C,r.ext λ_ _=>rfl,U,λi p b h=>?_⟩;have:=QcZ O j e;simpa[XG,BM] using this;cases (dX h).2;cases (dX h).2;cases (dX h).2
 have:=QoS n T V (QoZ N) (Qo2 n K) F H _ (BM l) [] _ s g a _ Z (QB _) I (λj=>by simp[XG,BM]) (by rw[oN];exact h);rw[Qdo,f]at this;exact wp_region_any B (dw (λa w y=>y) _ _ _ _ this)
def Qo3{L}(e:Z8 P L)(g:base<=w0.w.heap.size){b}{a}{Q}{s:St}(c:P.follows .mixedOrders=true)(l)(f:dW L a l=true)(d:BL a s.fr=true)(h:AX P base nt w0 (λs=>Q .normal s) (Vj [] a l) s):A P base nt w0 (.region b a true) Q s:=
 Qdp e g c l [] f d h
def Qo4{L}(e:Z8 P L)(g:base<=w0.w.heap.size){b}{a}{Q}{k}{s:St}(c:P.follows .mixedOrders=true)(l)(f:dW L a l=true)(d:BL a s.fr=true)(h:AX P base nt w0 (λs=>Qz P base nt w0 Q k .normal s) (Vj [] a l) s):Qz P base nt w0 Q (.code (.region b a true)::k) .normal s:=by
 simp only[Qz];exact Qo3 e g c l f d h
def Qdq{L}(e:Z8 P L)(g:base<=w0.w.heap.size){b}{a}{Q}{k}{s:St}(c:P.follows .mixedOrders=true)(l:List (Nat × Bool))(R:List Nat)(f:Dg nc L a l R=true)(d:BL a s.fr=true)(h:AX P base nt w0 (ER nc P base nt w0 a (λs=>Qz P base nt w0 Q k .normal s) R.length R (l.map (·.1))) (Vj nc a l) s):Qz P base nt w0 Q (.code (.region b a true)::k) .normal s:=by
 simp only[Qz];exact Qdp e g c l R f d h
end
section
variable (P:Program)(base:Nat)(w0:Start)(X:Cx)(nt:Nat)
def Lk(a:Bool)(o:Oper)(F:St->Prop)(stop:Prop)(s:St):Prop:=match yh X s o.op with
 | some (p,d)=>p/\Zn nt o.dst=true/\F ⟨Zb s.fr o.dst d,s.h⟩
 | none=>match a with
  | true=>False
  | false=>match Ar X s o.op with
   | some (p,h,d)=>p/\Zn nt o.dst=true/\F ⟨Zb s.fr o.dst d,h⟩
   | none=>stop
def Ax(K:St->Prop):List (Bool × Oper × G)->St->Prop
 | [],s=>K s
 | (a,o,g)::r,s=>match g with
  | none=>Lk X nt a o (Ax K r) (AX P base nt w0 K ((a,o,none)::r) s) s
  | some (none,_)=>Zn nt o.dst=true/\Ax K r ⟨Zb s.fr o.dst (.raw Go.undef),s.h⟩
  | some (some t,b)=>match get s.fr t with
   | .raw (.bool x)=>(EG b x=true->Lk X nt a o (Ax K r) (AX P base nt w0 K ((a,o,none)::r) ⟨put s.fr t (.raw (.bool b)),s.h⟩) ⟨put s.fr t (.raw (.bool b)),s.h⟩) /\
     (EG b x=false->Zn nt o.dst=true/\Ax K r ⟨Zb (put s.fr t (.raw (.bool (!b)))) o.dst (.raw Go.undef),s.h⟩)
   | .raw (.tuple _)=>Zn nt o.dst=true/\Ax K r ⟨Zb s.fr o.dst (.raw Go.undef),s.h⟩
   | _=>False
end
section
variable {nc:List Nat}{P:Program}{base nt:Nat}{w0:Start}
def Qo5{X}(E:qz P X)(Q4:base<=w0.w.heap.size){n}{o}{F M}{stop}{s}(R:∀s,F s->M s)(N:stop->Xi P base nt w0 n o M s)(h:Lk X nt n o F stop s):Xi P base nt w0 n o M s:=by
 unfold Lk at h;split at h
 .rename_i p d c;have C:=QcL (P:=P) (base:=base) (nt:=nt) E c h.1;have i:=R _ h.2.2;cases n with
  | true=>
   refine⟨d,C,λK=>?_,h.2.1,i⟩;unfold Dd at K;split at K;rename_i t x e;simp only[yh,e]at c;exact QbZ E.L e c h.1;cases K
  | false=>
   have f:qB o=false:=by
    cases f:qB o with
    | false=>rfl
    | true=>
     unfold qB at f;cases e:o.op<;>rw[e]at f<;>first|cases f|skip
     all_goals
      rw[e]at c;simp[yh]at c
   simp only[Xi,f];intro Z z B a w r b;obtain⟨v,H,j⟩:=C Z B a w r;unfold Oper.wp;rw[j w λ_ _=>rfl];simp only[Oper.upon_value];refine⟨.ext (Ext.refl _),_,_,B,v,i,?_,b,Tr.refl _ _ _,rfl⟩;cases J:o.dst with
   | none=>exact r
   | some t=>have g:=h.2.1;rw[J]at g;exact r.to (Tr.ext r.o λ_ _=>rfl) r.o (kF g) H
 .split at h;exact h.elim
  .split at h
   .rename_i p S d c;have C:=QcM (P:=P) (base:=base) (nt:=nt) E c h.1;have i:=R _ h.2.2;have g:=h.2.1;cases f:qB o with
    | true=>
     unfold qB at f;cases e:o.op<;>rw[e]at f<;>first|cases f|skip
     rename_i t;simp only[e,Ar]at c;split at c;rename_i y Y;simp only[Q5,Q9]at c;obtain⟨_,rfl,rfl⟩:=c;have f:qB o=true:=by simp[qB,e]
     simp only[Xi,f];exact⟨_,_,Qc2 E.L e Y,g,i⟩;cases c
     .rename_i t W;cases W with
      | some x=>cases f
      | none=>
       simp only[e,Ar]at c;have hq:∃q,S=s.h++[QR q 0 []]/\d=.mref s.h.length 0:=by
        unfold NU at c;split at c
        .split at c;all_goals
          simp only[Q5,Q9]at c;obtain⟨_,rfl,rfl⟩:=c;exact⟨_,rfl,rfl⟩
        cases c
       obtain⟨q,rfl,rfl⟩:=hq;have f:qB o=true:=by simp[qB,e]
       simp only[Xi,f];exact⟨_,_,Qc3 e q,g,i⟩
    | false=>
    simp only[Xi,f];intro Z z B a w r b;have T:De o=false:=by
     cases I:De o with
     | false=>rfl
     | true=>
      unfold De at I;split at I;rename_i e;simp[Ar,e]at c;cases I
    obtain⟨v,V,L,j,k,Q,H,O,U⟩:=C Z B a w r (JY Q4 b.1.size);have m:∀u,u=v->Rel Z base nt ⟨Zb s.fr o.dst d,S⟩ L (a.put o.dst u) V:=by
     rintro u rfl;cases J:o.dst with
     | none=>exact r.Ad k Q u
     | some t=>rw[J]at g;exact r.to k Q (kF g) H
    unfold Oper.wp;rcases j with j|⟨j,hu⟩;rw[j];simp only[Oper.upon_value];exact⟨.mk (λl=>U (by simp only[EL,ZE]at l;exact l.1)) T,_,_,L,_,i,m v rfl,b.step k O,k,rfl⟩;rw[j];simp only[Oper.upon_skip];exact⟨.mk (λl=>U (by simp only[EL,ZE]at l;exact l.1)) T,_,_,L,_,i,m _ hu.symm,b.step k O,k,rfl⟩
   exact N h
def ET{X}(a:qz P X)(c:base<=w0.w.heap.size){K}:∀(l:List (Bool × Oper × G)) (s:St),Ax P base w0 X nt K l s->AX P base nt w0 K l s
 | [],s,h=>h
 | (d,o,g)::r,s,h=>by
  have f:∀s,Lk X nt d o (Ax P base w0 X nt K r) (AX P base nt w0 K ((d,o,none)::r) s) s->Xi P base nt w0 d o (AX P base nt w0 K r) s:=λs i=>
   Qo5 a c (λs=>ET a c r s) (λh=>h) i
  simp only[Ax]at h;simp only[AX];split at h;exact f s h;exact⟨h.1,ET a c r _ h.2⟩;rename_i t b;split at h;rename_i x hx;simp only[QcN,qX,jv,ne_eq]at h;refine⟨λe=>f _ (h.1 e),λe=>?_⟩;have:=h.2 (by rw[e];cases b<;>simp);exact⟨this.1,ET a c r _ this.2⟩;exact⟨h.1,ET a c r _ h.2⟩;exact h.elim
def XW(a:D):D->Prop
 | .imm z n r=>match a with
  | .imm b e d=>b=z/\e=n/\∀i,i<n->d i=r i
  | _=>False
 | .raw v=>a=.raw v
 | .nil=>a=.nil
 | .undef=>a=.undef
 | .ip c=>a=.ip c
 | .ref l g o n=>a=.ref l g o n
 | .ptr l g i j=>a=.ptr l g i j
 | .mref l g=>a=.mref l g
 | .clo f n c=>a=.clo f n c
 | .agg c=>a=.agg c
 | .tup c=>a=.tup c
def KC:List D->List D->Prop
 | [],[]=>True
 | b::a,d::r=>XW b d/\KC a r
 | _,_=>False
def Qo7{N}{w}{g d}{v}(h:XW g d)(c:Cl N w g v):Cl N w d v:=by
 cases d<;>simp only[XW]at h;case imm z n r=>
  split at h;obtain⟨rfl,rfl,h⟩:=h;cases c with
  | imm _ _ _ a f b o k t p l s m=>
   exact .imm _ _ _ a f b o k t p (λi e=>by rw[<- h i e];exact l i e) s (λi j e q=>by rw[<- h i e];exact m i j e q)
  exact h.elim
 all_goals subst h;exact c
def Qdr:∀{a b:List D},KC a b->a.length=b.length/\∀i,i<b.length->XW (nth a i) (nth b i)
 | [],[],_=>⟨rfl,λi c=>by simp at c⟩
 | [],_::_,h=>h.elim
 | _::_,[],h=>h.elim
 | j::g,d::r,h=>by
  obtain⟨f,e⟩:=Qdr h.2;refine⟨by simp[f],λi c=>?_⟩;cases i with
  | zero=>exact h.1
  | succ i=>have:=e i (by simpa using c);simpa[nth] using this
def Qo8{Z}{h}{a}{w}{b d}{v}(e:XW b d)(r:QD Z h a w b v):QD Z h a w d v:=by
 cases d<;>simp only[XW]at e;case imm z n c=>
  split at e;cases r with
  | cl _ _ f=>exact .cl _ _ (Qo7 (d:=.imm z n c) (by simpa only[XW] using e) f)
  exact e.elim
 all_goals subst e;exact r
def QM.args{P}{f}{F}{a b}{R}(h:QM P f F b R)(e:KC a b):QM P f F a R:=λZ base w d c m l k o j=>by
 obtain⟨p,n⟩:=Qdr e;exact h Z base w d c m l k ω λi g=>Qo8 (n i g) (j i ω)
def QI.args{P}{f}{a b}{R}(h:QI P f b R)(e:KC a b):QI P f a R:=QM.args h e
def SE(U:base<=w0.w.heap.size){K}{g}{u:TypeId}{pos}{i}{N}{r}{s}{x}{c}{Q:Array TypeId}{f}{n}{t}(J:Qm P f)
  (E:JB (Qs s.fr x)=some (f,n,t)) {q:List D} (m:match YD (Wd s.h 4) (Z5 n t (c.toList.map (Qs s.fr))) with|some (p,j)=>p/\KC j q|none=>False) {R:D->List Ob->Prop} (l:QI P f q R)
  (V:∀d h,R d h->d.flat=true/\∀o∈h,o.flat) (F:Zn nt g=true) (I:∀d h,R d h->AX P base nt w0 K r ⟨Zb s.fr g (d.shift s.h.length),s.h++h.map (Ob.shift s.h.length)⟩) :
  AX P base nt w0 K ((false,⟨g,.call ⟨.value x,c,Q⟩,u,pos,i,N⟩,none)::r) s:=by
 simp only[AX,Xi,qB];intro Z z C a w y b;split at m;rename_i p j L;obtain⟨H,k⟩:=m;have l:=l.args k;refine Oper.wp_mono (λY W ⟨k,d,h,S,M,B,O,T,v,e⟩=>⟨λ_=>k,_,_,S,v,I d h M,B,O,T,e⟩) (QcR U J rfl E L H l V F C a w y b _);exact m.elim
def Yi(E:base<=w0.w.heap.size){Q}{k}{b}{q:TypeId}{pos}{c}{B}{r}{s}{x}{a}{C:Array TypeId}{f}{j}{n}(w:Qm P f)
  (t:JB (Qs s.fr x)=some (f,j,n)) {m:List D} (i:match YD (Wd s.h 4) (Z5 j n (a.toList.map (Qs s.fr))) with|some (p,e)=>p/\KC e m|none=>False) {R:D->List Ob->Prop} (g:QI P f m R)
  (F:∀d h,R d h->d.flat=true/\∀o∈h,o.flat) (u:Zn nt b=true) (l:∀d h,R d h->Qz P base nt w0 Q (.ops r::k) .normal ⟨Zb s.fr b (d.shift s.h.length),s.h++h.map (Ob.shift s.h.length)⟩) :
  Qz P base nt w0 Q (.ops ((⟨b,.call ⟨.value x,a,C⟩,q,pos,c,B⟩,none)::r)::k) .normal s:=by
 simp only[Qz]at l ⊢;split at i;rename_i p e z;obtain⟨v,y⟩:=i;have g:=g.args y;exact Qox E w rfl t z v g F u l;exact i.elim
end
section
variable {nc:List Nat}{P:Program}{base nt:Nat}{w0:Start}
def Xi.mono{f}{o}{F j}(g:∀s,F s->j s){s}(h:Xi P base nt w0 f o F s):Xi P base nt w0 f o j s:=by
 cases f with
 | true=>obtain⟨d,e,c,i,n⟩:=h;exact⟨d,e,c,i,g _ n⟩
 | false=>
  simp only[Xi]at h ⊢;split at h;obtain⟨l,mk,e,c,i⟩:=h;exact⟨l,mk,e,c,g _ i⟩;intro Z z k a w r b;exact Oper.wp_mono (λq w' ⟨m,d,h',p,v,e,c⟩=>⟨m,d,h',p,v,g _ e,c⟩) (h Z z k a w r b)
def AX.mono{K b}(a:∀s,K s->b s):∀(l:List (Bool × Oper × G)) (s:St),AX P base nt w0 K l s->AX P base nt w0 b l s
 | [],s,h=>a s h
 | (c,o,g)::r,s,h=>by
  simp only[AX]at h ⊢;split at h;exact Xi.mono (AX.mono a r) h;exact⟨h.1,AX.mono a r _ h.2⟩;split at h;exact⟨λe=>Xi.mono (AX.mono a r) (h.1 e),λe=>⟨(h.2 e).1,AX.mono a r _ (h.2 e).2⟩⟩;exact⟨h.1,AX.mono a r _ h.2⟩;exact h.elim
end
end Go.Fg
namespace Go.Fg
attribute [go_sem_proc] reduceIte reduceDIte dreduceIte dreduceDIte reduceCtorEq List.reduceReplicate Nat.reduceAdd Nat.reduceSub Nat.reduceMul Nat.reduceBEq Nat.reduceLT Nat.reduceGT Nat.reduceLeDiff Nat.reduceEqDiff Nat.reduceBneDiff Nat.reduceBeqDiff Nat.reduceSubDiff Nat.reduceBNe Nat.reduceDiv Nat.reduceMod Nat.reduceSucc Nat.reducePow Nat.reduceDvd Int.reduceToNat Int.reduceLE Int.reduceLT Int.reduceGT Int.reduceGE Int.reduceEq Int.reduceNe Int.reduceAdd Int.reduceSub Int.reduceMul Int.reduceNeg Int.reduceDiv Int.reduceMod Int.reducePow Int.reduceBEq Int.reduceBNe Int.reduceOfNat Int.reduceNegSucc Int.reduceNatCast Int.reduceNatCast' Int.reduceAbs Int.reduceDvd
def Vb{c:Sort _}{a b:c}(h:a=b):a=b:=h
@[go_sem] theorem QFR(a b:Nat):Nat.beq a b=(a==b):=by
 rw[vF];simp[Wo]
@[go_sem] theorem Qo9(a b):Nat.blt a b=decide (a<b):=by
 rw[vF];simp[wT]
@[go_sem] theorem EU(a b:Nat):Nat.ble a b=decide (a<=b):=by
 rw[vF];simp[Ip]
def hx(P:Program)(a:Nat)(c:Start)(Q:Exit->St->Prop)(X:Cx)(b n:Nat)(k:List Item)(s:St):Prop:=(exec X b n k s).holds P a b c Q
def hz(P:Program)(a:Nat)(b:Start)(Q:Exit->St->Prop)(X:Cx)(c n:Nat)(k:List Item)(s:St):Prop:=hx P a b Q X c n k s
def WT(b:Bool)(A B:Prop):Prop:=(b=true->A)/\(b=false->B)
def ZS(b:Bool)(A:Prop):Prop:=b=true/\A
section
variable {P:Program}{base:Nat}{w0:Start}{Q:Exit->St->Prop}{X:Cx}{nt n:Nat}{k:List Item}{s:St}
@[go_sem ↓] theorem QFS{B}:WT true (hz P base w0 Q X nt n k s) B=hx P base w0 Q X nt n k s:=by simp[WT,hz]
@[go_sem ↓] theorem QFT{A}:WT false A (hz P base w0 Q X nt n k s)=hx P base w0 Q X nt n k s:=by simp[WT,hz]
def VV{b}{c}{a}(e:b=true->hx P base w0 Q X nt n k s)(d:b=false->hx P base w0 Q X nt n c a):WT b (hz P base w0 Q X nt n k s) (hz P base w0 Q X nt n c a):=⟨e,d⟩
@[go_sem] theorem QFU:hx P base w0 Q X nt (n+1) [] s=Q .normal s:=Vb rfl
@[go_sem] theorem QFV{a}:hx P base w0 Q X nt (n+1) (.inBlock a::k) s=hx P base w0 Q X nt n k s:=Vb rfl
@[go_sem] theorem QFW:hx P base w0 Q X nt (n+1) (.code .skip::k) s=hx P base w0 Q X nt n k s:=Vb rfl
@[go_sem] theorem QFX{l}:hx P base w0 Q X nt (n+1) (.code (.label l)::k) s=hx P base w0 Q X nt n k s:=Vb rfl
@[go_sem] theorem QFY{a b}:hx P base w0 Q X nt (n+1) (.code (.seq a b)::k) s=hx P base w0 Q X nt n (.code a::.code b::k) s:=Vb rfl
@[go_sem] theorem QFZ{a}{c}:hx P base w0 Q X nt (n+1) (.code (.block a c)::k) s=hx P base w0 Q X nt n (.code c::.inBlock a::k) s:=Vb rfl
@[go_sem] theorem QF0:hx P base w0 Q X nt (n+1) (.inScope::k) s=hx P base w0 Q X nt n k s:=Vb rfl
@[go_sem] theorem QF1{c}:hx P base w0 Q X nt (n+1) (.code (.scope c)::k) s=hx P base w0 Q X nt n (.code c::.inScope::k) s:=Vb rfl
@[go_sem] theorem QF2{c}{a b}:hx P base w0 Q X nt (n+1) (.code (.cond c a b)::k) s=(match Qs s.fr c with
  | .raw (.bool x)=>WT x (hz P base w0 Q X nt n (.code a::k) s) (hz P base w0 Q X nt n (.code b::k) s)
  | _=>False):=by
 simp only[hx,exec];generalize Qs s.fr c=d;cases d with
 | raw v=>cases v<;>rfl
 | _=>rfl
@[go_sem] theorem QF3{a}:hx P base w0 Q X nt (n+1) (.code (.exit a)::k) s=(match jD a k with
  | some b=>hx P base w0 Q X nt n b s
  | none=>Q (.exit a) s):=by
 simp only[hx,exec];generalize jD a k=r;cases r<;>rfl
@[go_sem] theorem QF4:hx P base w0 Q X nt (n+1) (.code .ret::k) s=Q .ret s:=Vb rfl
@[go_sem] theorem QF5{b}{a}:hx P base w0 Q X nt (n+1) (.code (.region b a false)::k) s=hx P base w0 Q X nt n (.ops (BB a)::k) s:=Vb rfl
@[go_sem] theorem QF6{b}{a}:hx P base w0 Q X nt (n+1) (.code (.region b a true)::k) s=Qz P base nt w0 Q (.code (.region b a true)::k) .normal s:=Vb rfl
@[go_sem] theorem QF7{c}:hx P base w0 Q X nt (n+1) (.code (.loop c)::k) s=Qz P base nt w0 Q (.code (.loop c)::k) .normal s:=Vb rfl
@[go_sem] theorem QF8:hx P base w0 Q X nt (n+1) (.ops []::k) s=hx P base w0 Q X nt n k s:=Vb rfl
@[go_sem ↓] theorem QF9{A}:ZS true A=A:=by simp[ZS]
@[go_sem] theorem QGa{o:Oper}{r}:hx P base w0 Q X nt (n+1) (.ops ((o,none)::r)::k) s=(match yh X s o.op with
  | some (p,d)=>p/\(match Zn nt o.dst with|true=>hx P base w0 Q X nt n (.ops r::k) ⟨Zb s.fr o.dst d,s.h⟩|false=>False)
  | none=>match Ar X s o.op with
   | some (p,h,d)=>p/\(match Zn nt o.dst with|true=>hx P base w0 Q X nt n (.ops r::k) ⟨Zb s.fr o.dst d,h⟩|false=>False)
   | none=>Qz P base nt w0 Q (.ops ((o,none)::r)::k) .normal s):=by
 simp only[hx,exec];generalize yh X s o.op=b;generalize Ar X s o.op=a;cases b with
 | some e=>cases Zn nt o.dst<;>simp[Tree.holds]
 | none=>cases a with
  | some c=>cases Zn nt o.dst<;>simp[Tree.holds]
  | none=>rfl
def Qds{o:Oper}{t}{b}{r}(a:Zn nt o.dst=true):hx P base w0 Q X nt (n+1) (.ops ((o,some (some t,b))::r)::k) s=(match get s.fr t with
  | .raw (.bool x)=>WT (EG b x) (hz P base w0 Q X nt n (.ops ((o,none)::r)::k) ⟨put s.fr t (.raw (.bool b)),s.h⟩) (hz P base w0 Q X nt n (.ops r::k) ⟨Zb (put s.fr t (.raw (.bool (!b)))) o.dst (.raw Go.undef),s.h⟩)
  | .raw (.tuple _)=>hx P base w0 Q X nt n (.ops r::k) ⟨Zb s.fr o.dst (.raw Go.undef),s.h⟩
  | _=>False):=by
 simp only[hx,exec];generalize get s.fr t=d;cases d with
 | raw v=>
  cases v with
  | bool x=>simp[WT,hz,hx,a,Tree.holds]
  | tuple c=>simp[a]
  | _=>rfl
 | _=>rfl
@[go_sem] theorem QGb{o:Oper}{t}{r}(a:Zn nt o.dst=true):hx P base w0 Q X nt (n+1) (.ops ((o,some (some t,true))::r)::k) s=(match get s.fr t with
  | .raw (.bool x)=>WT x (hz P base w0 Q X nt n (.ops ((o,none)::r)::k) ⟨put s.fr t (.raw (.bool true)),s.h⟩) (hz P base w0 Q X nt n (.ops r::k) ⟨Zb (put s.fr t (.raw (.bool false))) o.dst (.raw Go.undef),s.h⟩)
  | .raw (.tuple _)=>hx P base w0 Q X nt n (.ops r::k) ⟨Zb s.fr o.dst (.raw Go.undef),s.h⟩
  | _=>False):=Qds a
@[go_sem] theorem QGc{o:Oper}{t}{r}(a:Zn nt o.dst=true):hx P base w0 Q X nt (n+1) (.ops ((o,some (some t,false))::r)::k) s=(match get s.fr t with
  | .raw (.bool x)=>WT x (hz P base w0 Q X nt n (.ops r::k) ⟨Zb (put s.fr t (.raw (.bool true))) o.dst (.raw Go.undef),s.h⟩) (hz P base w0 Q X nt n (.ops ((o,none)::r)::k) ⟨put s.fr t (.raw (.bool false)),s.h⟩)
  | .raw (.tuple _)=>hx P base w0 Q X nt n (.ops r::k) ⟨Zb s.fr o.dst (.raw Go.undef),s.h⟩
  | _=>False):=by
 rw[Qds a];generalize get s.fr t=d;cases d with
 | raw v=>
  cases v with
  | bool x=>cases x<;>simp[WT,EG]
  | _=>rfl
 | _=>rfl
end
section
variable {P:Program}{base nt:Nat}{w0:Start}{Q:Exit->St->Prop}{k:List Item}{s:St}{I:Nat->St->Prop}{m:Nat}
@[go_sem] theorem QGd{e}:Qz P base nt w0 Q [] e s=Q e s:=Vb rfl
@[go_sem] theorem QGe{x}:Qz P base nt w0 Q (x::k) .ret s=Qz P base nt w0 Q k .ret s:=by cases x<;>rfl
@[go_sem] theorem QGf{c}{j}:Qz P base nt w0 Q (.code c::k) (.exit j) s=Qz P base nt w0 Q k (.exit j) s:=Vb rfl
@[go_sem] theorem QGg{l}{j}:Qz P base nt w0 Q (.ops l::k) (.exit j) s=Qz P base nt w0 Q k (.exit j) s:=Vb rfl
@[go_sem] theorem QGh{a}:Qz P base nt w0 Q (.inBlock a::k) (.exit a) s=Qz P base nt w0 Q k .normal s:=by simp[Qz]
@[go_sem] theorem QGi{a j}(h:(j==a)=false):Qz P base nt w0 Q (.inBlock a::k) (.exit j) s=Qz P base nt w0 Q k (.exit j) s:=by
 have:¬ j=a:=by simpa using h
 simp[Qz,this]
@[go_sem] theorem QGj{a}:Qz P base nt w0 Q (.inBlock a::k) .normal s=Qz P base nt w0 Q k .normal s:=Vb rfl
@[go_sem] theorem QGk{j}:Qz P base nt w0 Q (.inScope::k) (.exit j) s=Qz P base nt w0 Q k (.exit j) s:=Vb rfl
@[go_sem] theorem QGl:Qz P base nt w0 Q (.inScope::k) .normal s=Qz P base nt w0 Q k .normal s:=Vb rfl
@[go_sem] theorem QGm:de P base nt w0 Q k I m .normal s=∃b a,b<m/\Qo w0 s a/\I b a:=Vb rfl
@[go_sem] theorem QGn{j}:de P base nt w0 Q k I m (.exit j) s=Qz P base nt w0 Q k (.exit j) s:=Vb rfl
@[go_sem] theorem QGo:de P base nt w0 Q k I m .ret s=Qz P base nt w0 Q k .ret s:=Vb rfl
end
attribute [go_sem] BB guardOf strip Qs get put Zb Zn Yy J2 yh Ar jD EG
 bJ bE bF bG bH GA GB bI nu IntKind.same IF mk TK.agg NL bK bL NM bM bO bT bU
 Ag Bn setRow R3 R4 CW cu NS yc Bv cv kz cz cD ED IQ cat kB q7 nth D.there JO nO
 Z5 YD Wd JB EH one As D.shift yi Ob.shift jE D.XV D.flat EI D.upto xh GZ G1 BE BD N4 Kd.IA Kd.ty Kd.ro Kd.Lc Kd.toRo
attribute [go_sem] JT List.map_nil List.getElem?_toArray List.getElem?_cons_zero List.getElem?_cons_succ List.getElem?_nil bu Option.bind_none KM qw Kw RG YT zR JS
 List.all_cons List.all_nil List.take_zero List.take_succ_cons List.take_nil List.drop_zero List.drop_succ_cons List.drop_nil List.set_cons_zero List.set_cons_succ List.getD_cons_zero List.getD_cons_succ List.replicate_zero aZ List.flatten_cons List.flatten_nil
 vL zT Be Gp Bool.and_true If Bool.and_false Ie Bool.or_true RD Bool.or_false Gn NH decide_true decide_false vM and_true false_and and_false
 implies_true forall_const reduceCtorEq List.toList_toArray Int.toNat_natCast Int.natCast_nonneg Int.ofNat_lt Int.ofNat_le Int.ofNat_inj Jz x6 QB Jj Q5 Q9
def EV{P}{a c}{b:Start}{Q}{X}(e:qz P X)(d:a<=b.w.heap.size)(n){k}{s}(h:hx P a b Q X c n k s):Qz P a c b Q k .normal s:=kG e d n k s h
def oP{P:Program}{X}(o:qz P X){f}{d:Func}{c}(n)(m:P.funcs[f]?=some d)(g:d.body=some c){b:List D}{R}{e}{i}(p:d.ntmps=e)(q:d.results=i)(k:Nat.ble b.length e=true)
  (h:∀(a:Nat) (w:World),a<=w.heap.size->hx P a ⟨w,[],[]⟩ (As X.L i.toList R) X e n [.code c] ⟨jE b 0,[]⟩):QI P f b R:=
 QcW o n m g p (RN k) (by
  subst q;intro a w j g l;cases j with
  | nil=>exact h a w g
  | cons _ _=>simp at l)
def oQ{P:Program}{X}(m:qz P X){f}{d:Func}{c}(n)(l:P.funcs[f]?=some d)(i:d.body=some c){F}{b:List D}{R}{g}{j}(o:d.ntmps=g)(p:d.results=j)(k:Nat.ble b.length g=true)
  (h:∀(a:Nat) (w:World) (e:List Pl),a<=w.heap.size->hx P a ⟨w,F,e⟩ (As X.L j.toList R) X g n [.code c] ⟨jE b 0,F⟩):QM P f F b R:=
 QcW m n l i o (RN k) (by subst p;exact λa w e i _=>h a w e i)
def Zh.take{Z}{a}{h:List Ob}{c:List Pl}{w}(R:Zh Z a h c w)(k)(y:BE k (h.take k)):Zh Z a (h.take k) (c.take k) w:=by
 have f:∀(l:Nat) (p:Pl),(c.take k)[l]?=some p->c[l]?=some p:=λl p e=>by
  rw[XB]at e;split at e;exact e;cases e
 have m:∀(l:Nat) (o:Ob),(h.take k)[l]?=some o->h[l]?=some o:=λl o e=>by
  rw[XB]at e;split at e;exact e;cases e
 refine⟨by simp[R.len],λl r b q n C B=>R.inj l r b q n (f _ _ C) (f _ _ B),λl o d g=>R.VU l o (m _ _ d) (f _ _ g),λl o b q d g=>?_⟩;obtain⟨z,x⟩:=R.at_ l o b q (m _ _ d) (f _ _ g);exact⟨z,x.to rfl rfl rfl rfl (λ_ _=>rfl) λi j v u t s=>s.take (N5 (oA y l o d i u) j t)⟩
def Kept(k:Nat)(R:D->List Ob->Prop)(d:D)(h:List Ob):Prop:=d.upto k=true/\BE k (h.take k)/\R d (h.take k)
def Qpb{a:List Pl}{k b}(h:Xp a b):Xp (a.take k) b:=λl q e=>by
 rw[XB]at e;split at e;exact h l q e;cases e
def QM.take{P}{f}{F:List Ob}{a}{R}(k)(t:F.length<=k)(h:QM P f F a (Kept k R)):QM P f F a R:=λZ b w g e C B z c x=>
 (h Z b w g e C B z c x).mono λ_ _ ⟨v,d,u,J,q,⟨I,H,E⟩,n,m,j,i⟩=>⟨v,d,u.take k,J.take k,q,E,n.take k H,m.take I,
  j.keep t ⟨λ_ y=>Qpb y,λl o p c s r=>⟨o,by rw[XB,Qd c];exact s,by rw[XB,Qd c];exact r,rfl,rfl,rfl⟩⟩,i⟩
def Qdt(k){P:Program}{X}(m:qz P X){f}{d:Func}{c}(n)(j:P.funcs[f]?=some d)(l:d.body=some c){a:List D}{R}{e}{g}(o:d.ntmps=e)(p:d.results=g)(i:Nat.ble a.length e=true)
  (h:∀(b:Nat) (w:World),b<=w.heap.size->hx P b ⟨w,[],[]⟩ (As X.L g.toList (Kept k R)) X e n [.code c] ⟨jE a 0,[]⟩):QI P f a R:=
 QM.take k (Jj _) (oP m n j l o p i h)
attribute [go_sem] Kept
def Qdu{k}:∀{h c:List Ob},BD h c->BE k c->BE k h
 | [],[],_,_=>trivial
 | [],_::_,h,_=>h.elim
 | _::_,[],h,_=>h.elim
 | _::_,_::_,h,b=>⟨λi a=>by rw[<- h.1.2.2.2.2 i a];exact b.1 i (by rw[h.1.2.2.1];exact a),Qdu h.2 b.2⟩
def Wk.to{m}(k){d a}{h c:List Ob}(b:GZ d a/\G1 k a=true/\BE k c/\BD (h.take k) c)(e:m<=k:=by exact RN rfl):Wk m ⟨d,h⟩ ⟨a,c⟩:=
 Wk.trans (Wk.frame b.1) (Wk.trans (Wk.drop k e b.2.1 (Qdu b.2.2.2 b.2.2.1)) (Wk.G0 b.2.2.2))
def Qo.to{c:Start}(k){d a}{h b:List Ob}(e:GZ d a/\G1 k a=true/\BE k b/\BD (h.take k) b)(f:c.F.length<=k:=by exact RN rfl):Qo c ⟨d,h⟩ ⟨a,b⟩:=(Wk.to k e f).up
def Qo.frame{b}{a fr'}{h}(c:GZ a fr'):Qo b ⟨a,h⟩ ⟨fr',h⟩:=(Wk.frame c).up
def Qo.jw{d}{b}{h:List Ob}(t c)(a)(e:get b t=.nil):Qo d ⟨b,h⟩ ⟨put b t (.ref h.length 0 0 0),h++[⟨.arr,0,c,0,a⟩]⟩:=(Wk.jw t c a e).up
def Oj{a:Type}[Inhabited a](c:Nat)(b:a->List D)(l:List a)(d:D)(h:List Ob):Prop:=∃g,d=.ref 0 g 0 l.length/\h=[⟨.arr,g,c,l.length,λi=>b (l.getD i default)⟩]
def Oj.flat{b:Type}[Inhabited b]{e:Nat}{a:b->List D}{l:List b}(f:∀x,EI (a x)=true):∀d h,Oj e a l d h->d.flat=true/\∀o∈h,o.flat:=by
 rintro d h ⟨g,rfl,rfl⟩;exact⟨rfl,λo c=>by simp at c;subst c;exact λi _=>f _⟩
def Ol(P:Program)(a:Nat)(b:Start)(Q:Exit->St->Prop)(X:Cx)(c n:Nat)(k:List Item)(s:St):Prop:=hx P a b Q X c n k s
def K8(P:Program)(a:Nat)(b:Start)(X:Cx)(c:Nat)(K:St->Prop)(l:List (Bool × Oper × G))(s:St):Prop:=Ax P a b X c K l s
def zd(P:Program)(a:Nat)(b:Start)(X:Cx)(c:Nat)(K:St->Prop)(l:List (Bool × Oper × G))(s:St):Prop:=K8 P a b X c K l s
section
variable {nc:List Nat}{P:Program}{base:Nat}{w0:Start}{Q:Exit->St->Prop}{X:Cx}{nt n:Nat}{k:List Item}{s:St}{l:List (Bool × Oper × G)}{K:St->Prop}
@[go_sem ↓] theorem QGp{B}:WT true (zd P base w0 X nt K l s) B=K8 P base w0 X nt K l s:=by simp[WT,zd]
@[go_sem ↓] theorem QGq{A}:WT false A (zd P base w0 X nt K l s)=K8 P base w0 X nt K l s:=by simp[WT,zd]
def ze{b}{c}{a}(e:b=true->K8 P base w0 X nt K l s)(d:b=false->K8 P base w0 X nt K c a):WT b (zd P base w0 X nt K l s) (zd P base w0 X nt K c a):=⟨e,d⟩
@[go_sem] theorem QGr:K8 P base w0 X nt K [] s=K s:=Vb rfl
@[go_sem] theorem QGs:Ol P base w0 Q X nt n k s=hx P base w0 Q X nt n k s:=Vb rfl
@[go_sem] theorem QGt{o:Oper}{r}:K8 P base w0 X nt K ((true,o,none)::r) s=(match yh X s o.op with
  | some (p,d)=>p/\(match Zn nt o.dst with|true=>K8 P base w0 X nt K r ⟨Zb s.fr o.dst d,s.h⟩|false=>False)
  | none=>False):=by
 simp only[K8,Ax,Lk];generalize yh X s o.op=a;cases a with
 | some b=>cases Zn nt o.dst<;>simp
 | none=>rfl
@[go_sem] theorem QGu{o:Oper}{r}:K8 P base w0 X nt K ((false,o,none)::r) s=(match yh X s o.op with
  | some (p,d)=>p/\(match Zn nt o.dst with|true=>K8 P base w0 X nt K r ⟨Zb s.fr o.dst d,s.h⟩|false=>False)
  | none=>match Ar X s o.op with
   | some (p,h,d)=>p/\(match Zn nt o.dst with|true=>K8 P base w0 X nt K r ⟨Zb s.fr o.dst d,h⟩|false=>False)
   | none=>AX P base nt w0 K ((false,o,none)::r) s):=by
 simp only[K8,Ax,Lk];generalize yh X s o.op=b;generalize Ar X s o.op=a;cases b with
 | some e=>cases Zn nt o.dst<;>simp
 | none=>cases a with
  | some c=>cases Zn nt o.dst<;>simp
  | none=>rfl
def Qdv{a}{o:Oper}{t}{b}{r}(c:Zn nt o.dst=true):K8 P base w0 X nt K ((a,o,some (some t,b))::r) s=(match get s.fr t with
  | .raw (.bool x)=>WT (EG b x) (zd P base w0 X nt K ((a,o,none)::r) ⟨put s.fr t (.raw (.bool b)),s.h⟩) (zd P base w0 X nt K r ⟨Zb (put s.fr t (.raw (.bool (!b)))) o.dst (.raw Go.undef),s.h⟩)
  | .raw (.tuple _)=>K8 P base w0 X nt K r ⟨Zb s.fr o.dst (.raw Go.undef),s.h⟩
  | _=>False):=by
 simp only[K8,zd,Ax];generalize get s.fr t=d;cases d with
 | raw v=>
  cases v with
  | bool x=>simp[WT,c]
  | tuple e=>simp[c]
  | _=>rfl
 | _=>rfl
@[go_sem] theorem QGv{a}{o:Oper}{t}{r}(b:Zn nt o.dst=true):K8 P base w0 X nt K ((a,o,some (some t,true))::r) s=(match get s.fr t with
  | .raw (.bool x)=>WT x (zd P base w0 X nt K ((a,o,none)::r) ⟨put s.fr t (.raw (.bool true)),s.h⟩) (zd P base w0 X nt K r ⟨Zb (put s.fr t (.raw (.bool false))) o.dst (.raw Go.undef),s.h⟩)
  | .raw (.tuple _)=>K8 P base w0 X nt K r ⟨Zb s.fr o.dst (.raw Go.undef),s.h⟩
  | _=>False):=Qdv b
@[go_sem] theorem QGw{a}{o:Oper}{t}{r}(b:Zn nt o.dst=true):K8 P base w0 X nt K ((a,o,some (some t,false))::r) s=(match get s.fr t with
  | .raw (.bool x)=>WT x (zd P base w0 X nt K r ⟨Zb (put s.fr t (.raw (.bool true))) o.dst (.raw Go.undef),s.h⟩) (zd P base w0 X nt K ((a,o,none)::r) ⟨put s.fr t (.raw (.bool false)),s.h⟩)
  | .raw (.tuple _)=>K8 P base w0 X nt K r ⟨Zb s.fr o.dst (.raw Go.undef),s.h⟩
  | _=>False):=by
 rw[Qdv b];generalize get s.fr t=d;cases d with
 | raw v=>
  cases v with
  | bool x=>cases x<;>simp[WT,EG]
  | _=>rfl
 | _=>rfl
def Qdw{d}{a}(c:qz P X)(b:base<=w0.w.heap.size)(n)(f:P.follows .mixedOrders=true)(l)(i:dW X.L a l=true)(g:BL a s.fr=true)(h:K8 P base w0 X nt (Ol P base w0 Q X nt n k) (Vj [] a l) s):Qz P base nt w0 Q (.code (.region d a true)::k) .normal s:=
 Qo4 c.L b f l i g (AX.mono (λs e=>EV c b n e) _ _ (ET c b _ _ h))
def Qpc(b:qz P X)(a:base<=w0.w.heap.size)(h:K8 P base w0 X nt K l s):AX P base nt w0 K l s:=ET b a _ _ h
abbrev Ll:=Nat × Oper × G × List Nat
def Lm:List Edge->List Nat
 | []=>[]
 | e::r=>bif Region.binds .any e then e.on::Lm r else Lm r
def jF(nc:List Nat)(a:Array Oper):List Nat->List Ll
 | []=>[]
 | i::r=>match a[i]? with
  | some o=>(i,YZ (K7 i nc) o,guardOf a o,Lm o.after.toList)::jF nc a r
  | none=>jF nc a r
def Dh(i:Nat):List Ll->List Ll
 | []=>[]
 | e::r=>bif Nat.beq e.1 i then Dh i r else e::Dh i r
def Om(done:List Nat):List Nat->Bool
 | []=>true
 | i::r=>K7 i done&&Om done r
def SF(F:Ll->Prop):List Ll->Prop
 | []=>True
 | e::r=>F e/\SF F r
def EW(P:Program)(base:Nat)(w0:Start)(X:Cx)(nt:Nat)(K:St->Prop):Nat->List Ll->List Nat->St->Prop
 | 0,_,_,s=>K s
 | m+1,a,done,s=>SF (λe=>match Om done e.2.2.2 with
  | true=>K8 P base w0 X nt (EW P base w0 X nt K m (Dh e.1 a) (e.1::done)) [(false,e.2.1,e.2.2.1)] s
  | false=>True) a
def oS{done}:∀{l:List Edge},kH done l=false->Om done (Lm l)=true
 | [],_=>rfl
 | e::r,h=>by
  simp only[kH,Gq,Gm,Bool.not_eq_false']at h;simp only[Lm];cases a:Region.binds .any e;exact oS h.2;simp only[vL,Om,ZE];refine⟨h.1.resolve_left (by rw[a];simp),oS h.2⟩
def Qdx{F}:∀{l:List Ll},SF F l->∀e∈l,F e
 | [],_,e,he=>by cases he
 | x::r,h,e,he=>by
  rcases QK.1 he with rfl|he;exact h.1;exact Qdx h.2 e he
def oT{a:Array Oper}{i}{o:Oper}(b:a[i]?=some o):∀{R:List Nat},i∈R->(i,YZ (K7 i nc) o,guardOf a o,Lm o.after.toList)∈jF nc a R
 | [],h=>by cases h
 | j::r,h=>by
  simp only[jF];rcases QK.1 h with rfl|h;rw[b];exact Ky ..;split;exact J8 _ (oT b h);exact oT b h
def dZ{a}{i}:∀{R:List Nat},i ∉ R->Dh i (jF nc a R)=jF nc a R
 | [],_=>rfl
 | j::r,h=>by
  simp only[QK,qx]at h;simp only[jF];split;simp only[Dh];have:Nat.beq j i=false:=by rw[<- Ya,Wo];exact λe=>h.1 e.symm
  rw[this,zT,dZ h.2];exact dZ h.2
def oU{a}{i}:∀{R:List Nat},R.Nodup->Dh i (jF nc a R)=jF nc a (R.erase i)
 | [],_=>rfl
 | j::r,h=>by
  obtain⟨d,c⟩:=ZV.1 h;by_cases b:j=i;subst b;rw[List.erase_cons_head];simp only[jF];split;simp only[Dh,ND,vL];exact dZ d;exact dZ d;rw[List.erase_cons_tail (by simpa using b)];have e:Nat.beq j i=false:=by rw[<- Ya,Wo];exact b
  simp only[jF];cases f:a[j]? with
  | some o=>simp only[Dh,e,zT,oU c]
  | none=>simp only[oU c]
def oV(d:qz P X)(c:base<=w0.w.heap.size){a}{g}(e:∀s,K s->g s):∀(m:Nat) (R done:List Nat) (s:St),R.Nodup->EW P base w0 X nt K m (jF nc a R) done s->ER nc P base nt w0 a g m R done s
 | 0,_,_,s,_,h=>e s h
 | m+1,R,done,s,b,h=>by
  intro i q o p r;have f:=Qdx h _ (oT p q);simp only[oS r]at f;refine AX.mono (λs j=>oV d c e m (R.erase i) (i::done) s (b.erase _) ?_) _ _ (ET d c _ _ f);rw[<- oU b];exact j
def Qdy(nc){f}{a}(c:qz P X)(b:base<=w0.w.heap.size)(n)(g:P.follows .mixedOrders=true)(l)(R)(e:Dg nc X.L a l R=true)(i:BL a s.fr=true)
  (h:K8 P base w0 X nt (EW P base w0 X nt (Ol P base w0 Q X nt n k) R.length (jF nc a R) (l.map (·.1))) (Vj nc a l) s):Qz P base nt w0 Q (.code (.region f a true)::k) .normal s:=by
 have j:R.Nodup:=by
  simp only[Dg,ZE]at e;exact(dV e.1.2).1
 exact Qdq c.L b g l R e i (AX.mono (λs d=>oV c b (λs d=>EV c b n d) _ _ _ s j d) _ _ (ET c b _ _ h))
def QGx{b}{a}(e:qz P X)(d:base<=w0.w.heap.size)(n)(c:P.follows .mixedOrders=true)(l)(R)(g:Dg [] X.L a l R=true)(f:BL a s.fr=true)
  (h:K8 P base w0 X nt (EW P base w0 X nt (Ol P base w0 Q X nt n k) R.length (jF [] a R) (l.map (·.1))) (Vj [] a l) s):Qz P base nt w0 Q (.code (.region b a true)::k) .normal s:=Qdy [] e d n c l R g f h
@[go_sem] theorem QGy{i}:Region.binds .any ⟨i,.data⟩=true:=rfl
@[go_sem] theorem QGz{i}:Region.binds .any ⟨i,.chain⟩=true:=rfl
@[go_sem] theorem QGA{i}:Region.binds .any ⟨i,.guard⟩=true:=rfl
@[go_sem] theorem QGB{i}:Region.binds .any ⟨i,.phase⟩=true:=rfl
@[go_sem] theorem QGC{i}{d}:Region.binds .any ⟨i,.textOnly d⟩=false:=rfl
@[go_sem] theorem QGD{i}{d}:Region.binds .any ⟨i,.gcOnly d⟩=false:=rfl
@[go_sem] theorem QGE{a}{d}:EW P base w0 X nt K 0 a d s=K s:=Vb rfl
@[go_sem] theorem QGF{m}{a}{d}:EW P base w0 X nt K (m+1) a d s=SF (λe=>match Om d e.2.2.2 with
  | true=>K8 P base w0 X nt (EW P base w0 X nt K m (Dh e.1 a) (e.1::d)) [(false,e.2.1,e.2.2.1)] s
  | false=>True) a:=Vb rfl
end
def SG(P:Program)(a d:Nat)(b:Start)(Q:Exit->St->Prop)(k:List Item)(S:Nat->St->Prop)(N i:Nat):Exit->St->Prop
 | .normal,s=>i<N/\∃c,Qo b s c/\S (i+1) c
 | e,s=>Qz P a d b Q k e s
section
variable {P:Program}{base nt:Nat}{w0:Start}{Q:Exit->St->Prop}{k:List Item}{s:St}
@[go_sem] theorem QGG{S}{N i}:SG P base nt w0 Q k S N i .normal s=(i<N/\∃a,Qo w0 s a/\S (i+1) a):=Vb rfl
@[go_sem] theorem QGH{S}{N i j}:SG P base nt w0 Q k S N i (.exit j) s=Qz P base nt w0 Q k (.exit j) s:=Vb rfl
@[go_sem] theorem QGI{S}{N i}:SG P base nt w0 Q k S N i .ret s=Qz P base nt w0 Q k .ret s:=Vb rfl
def ZN{c}(S)(N){s0}(d:Qo w0 s s0)(j:S 0 s0)(a:∀i s,i<=N->S i s->Qz P base nt w0 (SG P base nt w0 Q k S N i) [.code c] .normal s):Qz P base nt w0 Q (.code (.loop c)::k) .normal s:=by
 refine G2 (λm s=>∃i,i+m=N/\S i s) N d ⟨0,ω,j⟩ ?_;rintro m s ⟨i,o,f⟩;have:=a i s ω f;simp only[Qz]at this ⊢;refine this.mono λe n b=>?_;cases e with
 | normal=>obtain⟨p,l,h,g⟩:=b;exact⟨m-1,l,ω,h,i+1,ω,g⟩
 | _=>exact b
end
def G4{P}{a d}{b}{Q}{l}{k}{s c}(h:Qo b s c)(e:Qz P a d b Q (.ops l::k) .normal c):Qz P a d b Q (.ops l::k) .normal s:=by
 simp only[Qz]at e ⊢;exact e.YE h
attribute [go_sem] YZ jF Lm Dh Om K7 SF Vj KC false_implies imp_self ne_eq not_false_eq_true not_true_eq_false Nat.one_ne_zero
@[go_sem] theorem QGJ(v):D.Vh (.raw v)=Ag v:=rfl
@[go_sem] theorem QGK  : D.Vh (.nil)=true:=rfl
@[go_sem] theorem QGL  : D.Vh (.undef)=false:=rfl
@[go_sem] theorem QGM(z n)(r):D.Vh (.imm z n r)=true:=rfl
@[go_sem] theorem QGN(c):D.Vh (.ip c)=true:=rfl
@[go_sem] theorem QGO(l g o n):D.Vh (.ref l g o n)=true:=rfl
@[go_sem] theorem QGP(l g i j):D.Vh (.ptr l g i j)=true:=rfl
@[go_sem] theorem QGQ(l g):D.Vh (.mref l g)=true:=rfl
@[go_sem] theorem QGR(f)(n)(c):D.Vh (.clo f n c)=true:=rfl
@[go_sem] theorem QGS(c):D.Vh (.agg c)=false:=rfl
@[go_sem] theorem QGT(c):D.Vh (.tup c)=false:=rfl
@[go_sem] theorem QGU(v):Yf (.raw v)=bif D.Vh (.raw v) then some [.raw v] else none:=rfl
@[go_sem] theorem QGV  : Yf (.nil)=bif D.Vh (.nil) then some [.nil] else none:=rfl
@[go_sem] theorem QGW  : Yf (.undef)=bif D.Vh (.undef) then some [.undef] else none:=rfl
@[go_sem] theorem QGX(z n)(r):Yf (.imm z n r)=bif D.Vh (.imm z n r) then some [.imm z n r] else none:=rfl
@[go_sem] theorem QGY(c):Yf (.ip c)=bif D.Vh (.ip c) then some [.ip c] else none:=rfl
@[go_sem] theorem QGZ(l g o n):Yf (.ref l g o n)=bif D.Vh (.ref l g o n) then some [.ref l g o n] else none:=rfl
@[go_sem] theorem QG0(l g i j):Yf (.ptr l g i j)=bif D.Vh (.ptr l g i j) then some [.ptr l g i j] else none:=rfl
@[go_sem] theorem QG1(l g):Yf (.mref l g)=bif D.Vh (.mref l g) then some [.mref l g] else none:=rfl
@[go_sem] theorem QG2(f)(n)(c):Yf (.clo f n c)=bif D.Vh (.clo f n c) then some [.clo f n c] else none:=rfl
@[go_sem] theorem QG3(c:List D):Yf (.agg c)=bif c.all D.Vh then some c else none:=rfl
@[go_sem] theorem QG4(c):Yf (.tup c)=bif D.Vh (.tup c) then some [.tup c] else none:=rfl
@[go_sem] theorem QG5(a)(v):XW a (.raw v)=(a=.raw v):=rfl
@[go_sem] theorem QG6(a)  : XW a (.nil)=(a=.nil):=rfl
@[go_sem] theorem QG7(a)  : XW a (.undef)=(a=.undef):=rfl
@[go_sem] theorem QG8(a c z n)(b r):XW (.imm a c b) (.imm z n r)=(a=z/\c=n/\∀i,i<n->b i=r i):=rfl
@[go_sem] theorem QG9(a)(c):XW a (.ip c)=(a=.ip c):=rfl
@[go_sem] theorem QHa(a)(l g o n):XW a (.ref l g o n)=(a=.ref l g o n):=rfl
@[go_sem] theorem QHb(a)(l g i j):XW a (.ptr l g i j)=(a=.ptr l g i j):=rfl
@[go_sem] theorem QHc(a)(l g):XW a (.mref l g)=(a=.mref l g):=rfl
@[go_sem] theorem QHd(a)(f)(n)(c):XW a (.clo f n c)=(a=.clo f n c):=rfl
@[go_sem] theorem QHe(a)(c):XW a (.agg c)=(a=.agg c):=rfl
@[go_sem] theorem QHf(a)(c):XW a (.tup c)=(a=.tup c):=rfl
end Go.Fg
namespace Go.Fg
open Go.RowKit (Below)
def pos(l:Nat):List Nat->Nat
 | []=>0
 | k::r=>bif Nat.beq k l then 0 else pos l r+1
mutual
def D.XX(a:List Nat):D->D
 | .ref l g c e=>.ref (pos l a) g c e
 | .ptr l g i j=>.ptr (pos l a) g i j
 | .mref l g=>.mref (pos l a) g
 | .clo f h b=>.clo f h (zf a b)
 | .agg b=>.agg (zf a b)
 | .tup b=>.tup (zf a b)
 | d=>d
def zf(a:List Nat):List D->List D
 | []=>[]
 | c::b=>c.XX a::zf a b
end
mutual
def D.BN(a:List Nat):D->Bool
 | .ref l _ _ _=>K7 l a
 | .ptr l _ _ _=>K7 l a
 | .mref l _=>K7 l a
 | .clo _ _ b=>ym a b
 | .agg b=>ym a b
 | .tup b=>ym a b
 | _=>true
def ym(a:List Nat):List D->Bool
 | []=>true
 | c::b=>c.BN a&&ym a b
end
def Lo{l}:∀{Qq:List Nat},K7 l Qq=true->Qq[pos l Qq]?=some l
 | [],h=>by cases h
 | k::r,h=>by
  simp only[pos];by_cases e:k=l;subst e;simp;have b:Nat.beq k l=false:=by rw[<- Ya,Wo];exact e
  have a:Nat.beq l k=false:=by rw[<- Ya,Wo];exact λx=>e x.symm
  simp only[K7,a,Gn]at h;simp[b,Lo h]
def kJ(b):∀a:List D,(zf b a).length=a.length
 | []=>rfl
 | _::a=>by simp[zf,kJ b a]
def EX(b):∀(a:List D) (i:Nat),i<a.length->nth (zf b a) i=(nth a i).XX b
 | [],i,h=>by simp at h
 | c::a,0,_=>by simp[zf,nth]
 | c::a,i+1,h=>by
  have:=EX b a i (by simpa using h);simpa[zf,nth] using this
def On{c}:∀{b:List D},ym c b=true->∀i,i<b.length->(nth b i).BN c=true
 | [],_,i,h=>by simp at h
 | d::r,a,i,h=>by
  simp only[ym,ZE]at a;cases i with
  | zero=>exact a.1
  | succ i=>have:=On a.2 i (by simpa using h);simpa[nth] using this
def Ob.XX(a:List Nat)(o:Ob):Ob:=⟨o.kd,o.gen,o.sz,o.n,λi=>zf a (o.row i)⟩
def Y0(h:List Ob):List Nat->List Ob
 | []=>[]
 | i::r=>match h[i]? with
  | some o=>o::Y0 h r
  | none=>[]
def kN(a:List Pl):List Nat->List Pl
 | []=>[]
 | i::r=>match a[i]? with
  | some o=>o::kN a r
  | none=>[]
def WU(n:Nat):List Nat->Bool
 | []=>true
 | i::r=>Nat.blt i n&&WU n r
def Ay:List Nat->Bool
 | []=>true
 | i::r=>!K7 i r&&Ay r
def Qdz{n}:∀{l:List Nat},WU n l=true->∀i∈l,i<n
 | [],_,i,h=>by cases h
 | k::r,h,i,a=>by
  simp only[WU,ZE,wT]at h;rcases QK.1 a with e|e;subst e;exact h.1;exact Qdz h.2 i e
def QdA:∀{l:List Nat},Ay l=true->∀(i j x:Nat),l[i]?=some x->l[j]?=some x->i=j
 | [],_,i,j,x,h,_=>by simp at h
 | k::r,h,i,j,x,b,a=>by
  simp only[Ay,ZE,qv]at h;have c:k ∉ r:=λd=>by rw[xi.2 d]at h;cases h.1
  cases i with
  | zero=>
   simp at b;subst b;cases j with
   | zero=>rfl
   | succ j=>simp at a;exact absurd (NB a) c
  | succ i=>
   simp at b;cases j with
   | zero=>simp at a;subst a;exact absurd (NB b) c
   | succ j=>simp at a;rw[QdA h.2 i j x b a]
def Lp{h:List Ob}:∀{Qq:List Nat},WU h.length Qq=true->∀(i l:Nat),Qq[i]?=some l->(Y0 h Qq)[i]? = h[l]?
 | [],_,i,l,e=>by simp at e
 | k::r,a,i,l,e=>by
  simp only[WU,ZE,wT]at a;simp only[Y0,QJ a.1];cases i with
  | zero=>simp at e;subst e;simp[QJ a.1]
  | succ i=>simp at e;simpa using Lp a.2 i l e
def BO{h:List Pl}:∀{Qq:List Nat},WU h.length Qq=true->∀(i l:Nat),Qq[i]?=some l->(kN h Qq)[i]? = h[l]?
 | [],_,i,l,e=>by simp at e
 | k::r,a,i,l,e=>by
  simp only[WU,ZE,wT]at a;simp only[kN,QJ a.1];cases i with
  | zero=>simp at e;subst e;simp[QJ a.1]
  | succ i=>simp at e;simpa using BO a.2 i l e
def eh{h:List Ob}:∀{Qq:List Nat},WU h.length Qq=true->(Y0 h Qq).length=Qq.length
 | [],_=>rfl
 | k::r,a=>by
  simp only[WU,ZE,wT]at a;simp[Y0,QJ a.1,eh a.2]
def Oo{h:List Pl}:∀{Qq:List Nat},WU h.length Qq=true->(kN h Qq).length=Qq.length
 | [],_=>rfl
 | k::r,a=>by
  simp only[WU,ZE,wT]at a;simp[kN,QJ a.1,Oo a.2]
def QD.Qq{Z O}{h:List Ob}{u:List Pl}{w}{k}(W:∀b,free Z u b->O b)(s:u.length=h.length)(H:WU h.length k=true){d:D}{v}(r:QD Z h u w d v)(F:d.BN k=true):
  QD O ((Y0 h k).map (Ob.XX k)) (kN u k) w (d.XX k) v:=by
 have I:WU u.length k=true:=by rw[s];exact H
 have Yh:∀b,free Z u b->free O (kN u k) b:=λb T=>⟨W b T,λl q e=>by
  have Qb:l<k.length:=by rw[<- Oo I];exact Wp e
  rw[BO I l (k[l]) (QJ Qb)]at e;exact T.2 _ q e⟩
 have Zs:∀(d:D) (v:Value),Cl (free Z u) w d v->QD O ((Y0 h k).map (Ob.XX k)) (kN u k) w (d.XX k) v:=by
  intro d v z;have V:=z.mono (N':=free O (kN u k)) (w':=w) (λb H _=>⟨Yh b H,rfl⟩);clear z;induction V with
  | raw v=>exact .cl _ _ (.raw v)
  | undef v=>exact .cl _ _ (.undef v)
  | nil a=>exact .cl _ _ (.nil a)
  | imm U n Q a C b o m Y s B z x t=>exact .cl _ _ (.imm U n Q a C b o m Y s B z x)
  | ip E b o m z x t=>exact .cl _ _ (.ip E b o m z x)
  | clo f P N m s x t=>exact .clo f P _ m (by rw[kJ];exact s) (λi c=>by rw[kJ]at c;rw[EX _ _ _ c];exact t i c)
  | agg N m s x t=>exact .agg _ m (by rw[kJ];exact s) (λi c=>by rw[kJ]at c;rw[EX _ _ _ c];exact t i c)
  | tup N m s x t=>exact .tup _ m (by rw[kJ];exact s) (λi c=>by rw[kJ]at c;rw[EX _ _ _ c];exact t i c)
 induction r with
 | cl d v z=>exact Zs d v z
 | ref l g R S o p a C L K J M B=>
  have y:K7 l k=true:=by simpa[D.BN] using F
  exact .ref _ g R S (o.XX k) p a C (by rw[KL,Lp H _ l (Lo y),L];rfl) (by rw[BO I _ l (Lo y),K]) J M B
 | ptr l g i j o p a L K J M B=>
  have y:K7 l k=true:=by simpa[D.BN] using F
  exact .ptr _ g i j (o.XX k) p a (by rw[KL,Lp H _ l (Lo y),L];rfl) (by rw[BO I _ l (Lo y),K]) J M B
 | mref l g o p b L K J M B=>
  have y:K7 l k=true:=by simpa[D.BN] using F
  exact .mref _ g (o.XX k) p b (by rw[KL,Lp H _ l (Lo y),L];rfl) (by rw[BO I _ l (Lo y),K]) J M B
 | clo f P N m s x t=>exact .clo f P _ m (by rw[kJ];exact s) λi c=>by rw[kJ]at c;rw[EX _ _ _ c];exact t i c (On (by simpa[D.BN] using F) i c)
 | agg N m s x t=>exact .agg _ m (by rw[kJ];exact s) λi c=>by rw[kJ]at c;rw[EX _ _ _ c];exact t i c (On (by simpa[D.BN] using F) i c)
 | tup N m s x t=>exact .tup _ m (by rw[kJ];exact s) λi c=>by rw[kJ]at c;rw[EX _ _ _ c];exact t i c (On (by simpa[D.BN] using F) i c)
def Lq(a:List Nat):List Ob->Prop
 | []=>True
 | o::r=>(∀i,i<o.n->ym a (o.row i)=true)/\Lq a r
def QdB{a}:∀{h:List Ob},Lq a h->∀(l:Nat) (o:Ob),h[l]?=some o->∀i,i<o.n->ym a (o.row i)=true
 | [],_,l,o,e=>by simp at e
 | o::r,h,l,u,e=>by
  cases l with
  | zero=>simp at e;subst e;exact h.1
  | succ l=>simp at e;exact QdB h.2 l u e
def Zh.Qq{Z F}{c}{h:List Ob}{g}{w}{a}(R:Zh Z c h g w)(L:∀b,free Z g b->F b)(r:WU h.length a=true)(O:Ay a=true)(P:Lq a (Y0 h a)):
  Zh F c ((Y0 h a).map (Ob.XX a)) (kN g a) w:=by
 have t:WU g.length a=true:=by rw[R.len];exact r
 have s:∀(i:Nat) (p:Pl),(kN g a)[i]?=some p->∃l,a[i]?=some l/\g[l]?=some p:=λi p e=>by
  have Qb:i<a.length:=by rw[<- Oo t];exact Wp e
  exact⟨a[i],QJ Qb,by rw[<- BO t i _ (QJ Qb)];exact e⟩
 have E:∀(i:Nat) (o:Ob),((Y0 h a).map (Ob.XX a))[i]?=some o->∃l u,a[i]?=some l/\h[l]?=some u/\o=u.XX a/\(Y0 h a)[i]?=some u:=λi o e=>by
  rw[KL,VT]at e;obtain⟨u,f,rfl⟩:=e;have Qb:i<a.length:=by rw[<- eh r];exact KA f
  exact⟨a[i],u,QJ Qb,by rw[<- Lp r i _ (QJ Qb)];exact f,rfl,f⟩
 refine⟨by rw[Oo t,Kj,eh r],λi K b q I T S=>?_,λi o B z=>?_,λi o b q B z=>?_⟩;obtain⟨l,m,J⟩:=s _ _ T;obtain⟨y,d,n⟩:=s _ _ S;have:=R.inj l y b q I J n;subst this;exact QdA O i K l m d;obtain⟨l,u,m,f,rfl,_⟩:=E _ _ B;obtain⟨y,d,n⟩:=s _ _ z;rw[m]at d;cases d;exact R.VU l u f n;obtain⟨l,u,m,f,rfl,H⟩:=E _ _ B;obtain⟨y,d,n⟩:=s _ _ z;rw[m]at d;cases d;obtain⟨Q,x⟩:=R.at_ l u b q f n;refine⟨Q,x.to rfl rfl rfl rfl (λk _=>kJ _ _) λk j v N C M=>?_⟩;show QD _ _ _ _ (nth (zf a (u.row k)) j) v;rw[EX _ _ _ C];exact M.Qq L R.len r (On (QdB P i u H k N) j C)
def QdC{c:List Pl}{a}(d:WU c.length a=true){b}(h:Xp c b):Xp (kN c a) b:=λl q e=>by
 have Qb:l<a.length:=by rw[<- Oo d];exact Wp e
 rw[BO d l (a[l]) (QJ Qb)]at e;exact h _ q e
def oW(a:List Nat)(R:D->List Ob->Prop)(d:D)(h:List Ob):Prop:=d.BN a=true/\WU h.length a=true/\Lq a (Y0 h a)/\R (d.XX a) ((Y0 h a).map (Ob.XX a))
def SH:Nat->Nat->List Nat->Bool
 | 0,_,_=>true
 | _+1,_,[]=>false
 | m+1,i,k::r=>Nat.beq k i&&SH m (i+1) r
def QdD:∀{m i:Nat} {Qq:List Nat},SH m i Qq=true->∀l,l<m->Qq[l]?=some (i+l)
 | 0,_,_,_,l,a=>ω
 | m+1,i,[],h,_,_=>by cases h
 | m+1,i,k::r,h,l,a=>by
  simp only[SH,ZE]at h;obtain rfl:=RM h.1;cases l with
  | zero=>simp
  | succ l=>rw[List.getElem?_cons_succ,QdD h.2 l ω];congr 1;omega
def QM.Qq{P}{f}{F:List Ob}{a}{R}(b)(y:Ay b=true)(t:SH F.length 0 b=true)(h:QM P f F a (oW b R)):QM P f F a R:=λZ g w m k H E C j z=>
 (h Z g w m k H E C j z).mono λ_ _ ⟨v,d,M,L,s,⟨K,c,J,I⟩,i,r,q,n⟩=>⟨v,d.XX b,_,kN L b,s,I,i.Qq (λ_ h=>h.1) c y J,r.Qq (λ_ h=>h.1) i.len c K,
  q.keep (QB _) ⟨λ_ B=>QdC (by rw[i.len];exact c) B,λl o p j x u=>by
   have e:=QdD t l j;rw[Jz]at e;exact⟨o.XX b,by rw[KL,Lp c l l e,x];rfl,by rw[BO (by rw[i.len];exact c) l l e,u],rfl,rfl,rfl⟩⟩,n⟩
def oX(g)(l:Ay g=true){P:Program}{X}(o:qz P X){f}{d:Func}{c}(n)(k:P.funcs[f]?=some d)(m:d.body=some c){a:List D}{R}{e}{i}(p:d.ntmps=e)(q:d.results=i)(j:Nat.ble a.length e=true)
  (h:∀(b:Nat) (w:World),b<=w.heap.size->hx P b ⟨w,[],[]⟩ (As X.L i.toList (oW g R)) X e n [.code c] ⟨jE a 0,[]⟩):QI P f a R:=
 QM.Qq g l rfl (oP o n k m p q j h)
attribute [go_sem] oW pos D.XX zf D.BN ym Ob.XX Y0 WU Lq K7
mutual
def D.idx(a:Nat->Nat):D->D
 | .ref l g c e=>.ref (a l) g c e
 | .ptr l g i j=>.ptr (a l) g i j
 | .mref l g=>.mref (a l) g
 | .clo f h b=>.clo f h (Az a b)
 | .agg b=>.agg (Az a b)
 | .tup b=>.tup (Az a b)
 | d=>d
def Az(a:Nat->Nat):List D->List D
 | []=>[]
 | c::b=>c.idx a::Az a b
end
def xk(b):∀a:List D,(Az b a).length=a.length
 | []=>rfl
 | _::a=>by simp[Az,xk b a]
def G5(b):∀(a:List D) (i:Nat),i<a.length->nth (Az b a) i=(nth a i).idx b
 | [],i,h=>by simp at h
 | c::a,0,_=>by simp[Az,nth]
 | c::a,i+1,h=>by
  have:=G5 b a i (by simpa using h);simpa[Az,nth] using this
def Ob.idx(a:Nat->Nat)(o:Ob):Ob:=⟨o.kd,o.gen,o.sz,o.n,λi=>Az a (o.row i)⟩
def QD.idx{Z P}{h R}{N L}{w}(M)(hf:∀b,free Z N b->free P L b)
  (S:∀(l:Nat) (o:Ob) (p:Pl),h[l]?=some o->N[l]?=some p->∃q,R[M l]?=some q/\L[M l]?=some p/\q.gen=o.gen/\q.sz=o.sz/\q.kd.ty=o.kd.ty) {d:D} {v:Value} (r:QD Z h N w d v):QD P R L w (d.idx M) v:=by
 have Zs:∀(d:D) (v:Value),Cl (free Z N) w d v->QD P R L w (d.idx M) v:=by
  intro d v t;have Y:=t.mono (N':=free P L) (w':=w) (λb hb _=>⟨hf b hb,rfl⟩);clear t;induction Y with
  | raw v=>exact .cl _ _ (.raw v)
  | undef v=>exact .cl _ _ (.undef v)
  | nil a=>exact .cl _ _ (.nil a)
  | imm W n T a y b o e ha m x t s k=>exact .cl _ _ (.imm W n T a y b o e ha m x t s)
  | ip z b o e t s k=>exact .cl _ _ (.ip z b o e t s)
  | clo f Q K e m s k=>exact .clo f Q _ e (by rw[xk];exact m) (λi c=>by rw[xk]at c;rw[G5 _ _ _ c];exact k i c)
  | agg K e m s k=>exact .agg _ e (by rw[xk];exact m) (λi c=>by rw[xk]at c;rw[G5 _ _ _ c];exact k i c)
  | tup K e m s k=>exact .tup _ e (by rw[xk];exact m) (λi c=>by rw[xk]at c;rw[G5 _ _ _ c];exact k i c)
 induction r with
 | cl d v t=>exact Zs d v t
 | ref l g U V o p a y C B E F x=>
  obtain⟨q,J,I,u,O,H⟩:=S l o p C B;exact .ref _ g U V q p a y J I (by rw[H];exact E) (by rw[u];exact F) (by rw[u,O];exact x)
 | ptr l g i j o p a C B E F x=>
  obtain⟨q,J,I,u,O,H⟩:=S l o p C B;exact .ptr _ g i j q p a J I (by rw[H];exact E) (by rw[u];exact F) (by rw[u,O];exact x)
 | mref l g o p b C B E F x=>
  obtain⟨q,J,I,u,O,H⟩:=S l o p C B;exact .mref _ g q p b J I (by rw[H];exact E) (by rw[u];exact F) (by rw[u];exact x)
 | clo f Q K e m s k=>exact .clo f Q _ e (by rw[xk];exact m) (λi c=>by rw[xk]at c;rw[G5 _ _ _ c];exact k i c)
 | agg K e m s k=>exact .agg _ e (by rw[xk];exact m) (λi c=>by rw[xk]at c;rw[G5 _ _ _ c];exact k i c)
 | tup K e m s k=>exact .tup _ e (by rw[xk];exact m) (λi c=>by rw[xk]at c;rw[G5 _ _ _ c];exact k i c)
def W7(n:Nat):List Nat->Nat->Nat
 | [],i=>n+i
 | k::_,0=>k
 | _::r,i+1=>W7 n r i
def XY{a:Type}(h:List a):List Nat->List a->List a
 | [],b=>h++b
 | k::r,x::b=>XY (h.set k x) r b
 | _::_,[]=>h
def ei{n}:∀{Qq:List Nat} {i l:Nat},Qq[i]?=some l->W7 n Qq i=l
 | [],i,l,h=>by simp at h
 | k::r,0,l,h=>by simp at h;simp[W7,h]
 | k::r,i+1,l,h=>by simp at h;simp[W7,ei h]
def QdE{n}:∀{Qq:List Nat} {i:Nat},W7 n Qq (Qq.length+i)=n+i
 | [],i=>by simp[W7]
 | k::r,i=>by
  rw[show (k::r).length+i=(r.length+i)+1 by simp;omega];simp only[W7];exact QdE
def oY{n:Type}:∀{Qq:List Nat} {h a:List n},WU h.length Qq=true->Ay Qq=true->Qq.length<=a.length->∀(i:Nat),i<a.length->(XY h Qq a)[W7 h.length Qq i]? = a[i]?
 | [],h,a,_,_,_,i,f=>by
  simp only[XY,W7];rw[Kc ω];congr 1;omega
 | k::r,h,[],_,_,o,i,f=>by simp at f
 | k::r,h,x::a,l,g,o,i,f=>by
  simp only[WU,ZE,wT]at l;simp only[Ay,ZE,qv]at g;simp only[XY];have b:(h.set k x).length=h.length:=σ;cases i with
  | zero=>
   have s:k ∉ r:=λd=>by rw[xi.2 d]at g;cases g.1
   have m:∀(r:List Nat) (c a:List n),k ∉ r->k<c.length->(XY c r a)[k]? = c[k]? := by
    intro r;induction r with
    | nil=>intro c a _ Qb;simp only[XY];rw[JJ Qb]
    | cons j r q=>
     intro c a d Qb;cases a with
     | nil=>rfl
     | cons y p=>
      simp only[XY];rw[q (c.set j y) p (λt=>d (J8 _ t)) (by simpa using Qb),JG (λe=>d (by rw[e];exact Ky))]
   simp only[W7];rw[m r (h.set k x) a s (by simpa using l.1)];simp[l.1]
  | succ i=>
   simp only[W7];rw[<- b];exact oY (by rw[b];exact l.2) g.2 (by simpa using o) i (by simpa using f)
def Oq{d:Type}:∀{Qq:List Nat} {h b:List d} {l:Nat},l<h.length->l ∉ Qq->(XY h Qq b)[l]? = h[l]?
 | [],h,b,l,a,_=>by simp only[XY];rw[JJ a]
 | k::r,h,[],l,a,_=>rfl
 | k::r,h,x::b,l,a,c=>by
  simp only[XY];rw[Oq (by simpa using a) (λf=>c (J8 _ f)),JG (λe=>c (by rw[e];exact Ky))]
def eu{c:Type}:∀{Qq:List Nat} {h a:List c},Qq.length<=a.length->(XY h Qq a).length=h.length+(a.length-Qq.length)
 | [],h,a,_=>by simp[XY]
 | k::r,h,[],b=>by simp at b
 | k::r,h,x::a,b=>by
  simp only[XY];rw[eu (by simpa using b)];simp
def Qpd{d:Type}{a:List Nat}{h b:List d}(j:WU h.length a=true)(g:a.length<=b.length){l}(k:l<h.length+(b.length-a.length)):
  (∃i,i<b.length/\l=W7 h.length a i)\/(l<h.length/\l ∉ a):=by
 by_cases Qb:l<h.length;by_cases c:l∈a;obtain⟨i,f,e⟩:=vH c;exact .inl ⟨i,ω,(ei (by rw[QJ f,e])).symm⟩;exact .inr ⟨Qb,c⟩;refine .inl ⟨a.length+(l-h.length),ω,?_⟩;rw[QdE];omega
section
variable {P:Program}{base nt:Nat}{w0:Start}{Q:Exit->St->Prop}
def jG(h:List Ob)(a:List Nat)(b:List Ob):List Ob:=XY h a (b.map (Ob.idx (W7 h.length a)))
def Qpe{Z}{s:St}{f}{w J:World}{a}(R:Zh Z base s.h f w)(Q4:base<=w.heap.size)(hz:∀b,w.heap.size<=b->Z b)(hb:WU s.h.length a=true)(hd:Ay a=true)
  {n:List Ob} {m:List Pl} {d:D} {v:Value} {F:List Ob} (hF:F.length=a.length) (oZ:∀(i:Nat) (o u:Ob),F[i]?=some o->(∃l,a[i]?=some l/\s.h[l]?=some u)->o.gen=u.gen/\o.sz=u.sz/\o.kd.ty=u.kd.ty)
  (O':Zh (λb=>Z b/\∀l q,f[l]?=some (some (b,q))->l∈a) base n m J) (V':QD (λb=>Z b/\∀l q,f[l]?=some (some (b,q))->l∈a) n m J d v)
  (T:Tr F (kN f a) w n m J) (B:Below base w J) :
  Tr s.h f w (jG s.h a n) (XY f a m) J/\Zh Z base (jG s.h a n) (XY f a m) J/\QD Z (jG s.h a n) (XY f a m) J (d.idx (W7 s.h.length a)) v:=by
 have M:WU f.length a=true:=by rw[R.len];exact hb
 have o4:m.length=n.length:=O'.len;have Ot:∀(i l:Nat),a[i]?=some l->∃u p E N,s.h[l]?=some u/\f[l]?=some p/\n[i]?=some E/\m[i]?=some N/\u.gen<=E.gen/\E.kd.ty=u.kd.ty/\(E.gen=u.gen->E.sz=u.sz/\N=p):=by
  intro i l e;have t:i<a.length:=(W3.1 e).1;have hl:l<s.h.length:=Qdz hb l (NB e);have S:F[i]?=some (F[i]'ω):=QJ _;have g:s.h[l]?=some s.h[l]:=QJ hl;have Jq:l<f.length:=by rw[R.len];exact hl
  have C:f[l]?=some f[l]:=QJ Jq;obtain⟨V,k2,K⟩:=oZ i _ _ S ⟨l,e,g⟩;obtain⟨E,N,t1,t2,t3,t4,t5⟩:=T.obj i _ f[l] S (by rw[BO M i l e,C]);exact⟨_,_,E,N,g,C,t1,t2,ω,by rw[t4,K],λx=>by obtain⟨y,z⟩:=t5 ω;exact⟨by rw[y,k2],z⟩⟩
 have BP:a.length<=n.length:=by
  rcases Nat.eq_zero_or_pos a.length with h0|h0;omega;obtain⟨_,_,E,_,_,_,h3,_⟩:=Ot (a.length-1) _ (QJ ω);have:=KA h3;omega
 have ez:a.length<=m.length:=ω;have hN:s.h.length=f.length:=R.len.symm;have eA:∀i,i<m.length->(XY f a m)[W7 s.h.length a i]? = m[i]? := λi t=>by rw[hN];exact oY M hd ez i t
 have SI:∀i,i<n.length->(jG s.h a n)[W7 s.h.length a i]? = (n[i]?).map (Ob.idx (W7 s.h.length a)):=λi t=>by
  unfold jG;rw[oY hb hd (by simpa using BP) i (by simpa using t),KL]
 have r:∀(l b q:Nat),l ∉ a->f[l]?=some (some (b,q))->Xp m b/\J.heap[b]? = w.heap[b]? := λl b q L e=>by
  refine T.JU b (λi Y e'=>?_) (R.lt e).1;have t:i<a.length:=by rw[<- Oo M];exact Wp e'
  have g:a[i]?=some a[i]:=QJ t;rw[BO M i _ g]at e';have:=R.inj _ _ _ _ _ e e';exact L (by rw[this];exact Xn t)
 have W:∀(l:Nat) (p:Pl),(XY f a m)[l]?=some p->(∃i,i<m.length/\l=W7 s.h.length a i/\m[i]?=some p)\/(l<f.length/\l ∉ a/\f[l]?=some p):=λl p e=>by
  have Qb:=Wp e;rw[eu ez]at Qb;rcases Qpd M ez Qb with ⟨i,t,rfl⟩|⟨O,I⟩;rw[hN]at eA ⊢;exact .inl ⟨i,t,rfl,by rw[<- eA i t];exact e⟩;exact .inr ⟨O,I,by rw[Oq O I]at e;exact e⟩
 have N8:∀b,free (λb=>Z b/\∀l q,f[l]?=some (some (b,q))->l∈a) m b->free Z (XY f a m) b:=λb hf=>⟨hf.1.1,λl q e=>by
  rcases W l _ e with ⟨i,_,_,g⟩|⟨_,I,g⟩;exact hf.2 i q g;exact I (hf.1.2 l q g)⟩
 have Zg:∀(l:Nat) (o:Ob) (p:Pl),n[l]?=some o->m[l]?=some p->∃E,(jG s.h a n)[W7 s.h.length a l]?=some E/\(XY f a m)[W7 s.h.length a l]?=some p/\E.gen=o.gen/\E.sz=o.sz/\E.kd.ty=o.kd.ty:=λl o p h H=>
  ⟨o.idx (W7 s.h.length a),by rw[SI l (KA h),h];rfl,by rw[eA l (Wp H),H],rfl,rfl,rfl⟩
 have T2:Tr s.h f w (jG s.h a n) (XY f a m) J:=by
  refine⟨λb a0 Qb=>?_,λl o p h H=>?_,λl o E b q h ZG hg H c el hc=>?_⟩;obtain⟨O,I⟩:=T.JU b (QdC M a0) Qb;refine⟨λl q e=>?_,I⟩;rcases W l _ e with ⟨i,_,_,g⟩|⟨_,_,g⟩;exact O i q g;exact a0 l q g;by_cases L:l∈a;obtain⟨i,t,e⟩:=vH L;have g:a[i]?=some l:=by rw[QJ t,e]
  obtain⟨u,p1,E,N,V,k2,K,k4,k5,k6,k7⟩:=Ot i l g;rw[h]at V;cases V;rw[H]at k2;cases k2;have G6:W7 s.h.length a i=l:=ei g;refine⟨E.idx (W7 s.h.length a),N,by rw[<- G6,SI i (KA K),K];rfl,by rw[<- G6,eA i (Wp k4),k4],k5,k6,k7⟩;exact⟨o,p,by unfold jG;rw[Oq (KA h) L];exact h,by rw[Oq (Wp H) L];exact H,QB _,rfl,λ_=>⟨rfl,rfl⟩⟩;by_cases L:l∈a;obtain⟨i,t,e⟩:=vH L;have g:a[i]?=some l:=by rw[QJ t,e]
  obtain⟨u,p1,o1,N,V,k2,K,k4,k5,k6,k7⟩:=Ot i l g;rw[h]at V;cases V;have G6:W7 s.h.length a i=l:=ei g;rw[<- G6,SI i (KA K),K]at ZG;cases ZG;have S:F[i]?=some (F[i]'ω):=QJ _;obtain⟨f1,f2,f3⟩:=oZ i _ _ S ⟨l,g,h⟩;have hg:o1.gen=o.gen:=hg;exact T.shape i _ o1 b q S K ω (by rw[BO M i l g,H]) c el hc;exact⟨c,by rw[(r l b q L H).2];exact hc,rfl⟩
 refine⟨T2,⟨?_,λl l' b q Y S g=>?_,λl o h H=>?_,λl o b q h H=>?_⟩,V'.idx _ N8 Zg⟩;unfold jG;rw[eu ez,eu (by simpa using BP)];simp[R.len,o4];rcases W l _ S with ⟨i,t,rfl,C⟩|⟨O,I,C⟩<;>rcases W l' _ g with ⟨j,hj,rfl,e4⟩|⟨h3,h4,e4⟩;rw[O'.inj i j b q Y C e4];exact absurd C ((r l' b Y h4 e4).1 i q);exact absurd e4 ((r l b q I C).1 j Y);exact R.inj l l' b q Y C e4;rcases W l _ H with ⟨i,t,rfl,C⟩|⟨O,I,C⟩;have U:i<n.length:=ω;rw[SI i U,QJ U]at h;cases h;exact O'.VU i n[i] (QJ U) C;unfold jG at h;rw[Oq ω I]at h;exact R.VU l o h C;rcases W l _ H with ⟨i,t,rfl,C⟩|⟨O,I,C⟩;have U:i<n.length:=ω;rw[SI i U,QJ U]at h;cases h;obtain⟨g1,x⟩:=O'.at_ i _ b q (QJ U) C;refine⟨g1,x.to rfl rfl rfl rfl (λk _=>xk _ _) λk j v hk hj hr=>?_⟩;show QD _ _ _ _ (nth (Az _ (n[i].row k)) j) v;rw[G5 _ _ _ hj];exact hr.idx _ N8 Zg;unfold jG at h;rw[Oq ω I]at h;obtain⟨g1,x⟩:=R.at_ l o b q h C;exact⟨g1,x.to rfl rfl rfl (r l b q I C).2 (λ_ _=>rfl) λi j v _ _ hr=>hr.tr T2⟩
def QdG(Q4:base<=w0.w.heap.size){o:Oper}{s}{x}{c}{Zo:Array TypeId}{f}{B}{J}(hf:Qm P f)(ho:o.op=.call ⟨.value x,c,Zo⟩)
  (hx:JB (Qs s.fr x)=some (f,B,J)) (g:List Nat) (p:WU s.h.length g=true) (I:Ay g=true) (Y:Lq g (Y0 s.h g)) (eB:ym g (Z5 B J (c.toList.map (Qs s.fr)))=true)
  {R:D->List Ob->Prop} (hF:QM P f ((Y0 s.h g).map (Ob.XX g)) (zf g (Z5 B J (c.toList.map (Qs s.fr)))) R)
  (N:Zn nt o.dst=true) {Z:Nat->Prop} (z:Sg w0 Z) (j:List Pl) (a:Act) (w:World) (r:Rel Z base nt s j a w) (b:Va Z base w0 s.h j w) (Q':Exit->Act->World->Prop) :
  o.wp P a w (λT y=>(g=[]->Ext w y)/\∃d h C,R d h/\Rel Z base nt ⟨Zb s.fr o.dst (d.idx (W7 s.h.length g)),jG s.h g h⟩ C T y/\Va Z base w0 (jG s.h g h) C y/\Tr s.h j w (jG s.h g h) C y/\∃v,T=a.put o.dst v) Q':=by
 obtain⟨U,hv,V,EJ⟩:=Sn (r.eval x) hx;have L:base<=w.heap.size:=JY Q4 b.1.size;have E:∀b,w.heap.size<=b->Z b:=b.2.2.new;have qC:WU j.length g=true:=by rw[r.o.len];exact p
 have K:∀b,free Z j b->(Z b/\∀l q,j[l]?=some (some (b,q))->l∈g):=λk m=>⟨m.1,λl q e=>absurd e (m.2 l q)⟩;obtain⟨W,KB⟩:=Sq (r:=λd v=>QD Z s.h j w d v) (nf:=B) V EJ (us:=c.toList.map a.eval) (args:=c.toList.map (Qs s.fr)) σ (λi n=>by
  have Jl:i<c.toList.length:=by simpa using n
  simp only[nth,Q6,QW,KL];rw[QJ Jl];exact r.eval _)
 have hc:=hF (λb=>Z b/\∀l q,j[l]?=some (some (b,q))->l∈g) base w (kN j g) (Z5 B U (c.toList.map a.eval)) L
  (λk m=>⟨E k m,λl q e=>by have:=(r.o.lt e).1;omega⟩) (r.o.Qq K p I Y) (by rw[kJ];exact W) (λi n=>by
   rw[kJ]at n;rw[EX _ _ _ n];exact(KB i n).Qq K r.o.len p (On eB i n))
 unfold Oper.wp;rw[Sr hf ho hv w];simp only[Oper.upon_enter];refine hc.mono λe y he=>?_;obtain⟨v,d,h',C,rfl,hR,hO,hV,O,S⟩:=he;obtain⟨H,M,j3⟩:=Qpe r.o L E p I (F:=(Y0 s.h g).map (Ob.XX g)) (by rw[Kj,eh p]) (λi o u e ⟨l,e1,e2⟩=>by
  rw[KL,Lp p i l e1,e2]at e;cases e;exact⟨rfl,rfl,rfl⟩) hO hV O S
 refine⟨λe=>by subst e;exact λk m=>(O.JU k (λl q e=>by simp[kN]at e) m).2,d,h',XY j g C,hR,?_,b.step H S,H,v,rfl⟩;cases I:o.dst with
 | none=>exact r.Ad H M v
 | some t=>rw[I]at N;exact r.to H M (kF N) j3
def Wy(Q4:base<=w0.w.heap.size)(g){k}{H}{ty:TypeId}{pos}{I}{gd}{r}{s}{x}{n}{Zo:Array TypeId}{f}{T}{V}(hf:Qm P f)
  (hx:JB (Qs s.fr x)=some (f,T,V)) {F:List Ob} {cs:List D} (ZS:WU s.h.length g=true/\Ay g=true/\Lq g (Y0 s.h g)/\ym g (Z5 T V (n.toList.map (Qs s.fr)))=true/\KC (zf g (Z5 T V (n.toList.map (Qs s.fr)))) cs/\BD ((Y0 s.h g).map (Ob.XX g)) F)
  {R:D->List Ob->Prop} (hF:QM P f F cs R) (ht:Zn nt H=true) (hk:∀d h,R d h->Qz P base nt w0 Q (.ops r::k) .normal ⟨Zb s.fr H (d.idx (W7 s.h.length g)),jG s.h g h⟩) :
  Qz P base nt w0 Q (.ops ((⟨H,.call ⟨.value x,n,Zo⟩,ty,pos,I,gd⟩,none)::r)::k) .normal s:=by
 simp only[Qz]at hk ⊢;obtain⟨hb,hd,o5,eB,he,y⟩:=ZS;intro Z z S a w r b;simp only[YY,Xq,Vu];have a1:=hF.args he;have a0:QM P f ((Y0 s.h g).map (Ob.XX g)) (zf g (Z5 T V (n.toList.map (Qs s.fr)))) R:=by
  intro Z base w S vs h1 h2 M hl hc;have hw:=Wk.G0 (m:=F.length) (fr:=[]) y;obtain⟨W,r',K⟩:=hw Z base 0 S { tmps:=#[],defers:=[] } w ⟨rfl,rfl,λt=>.cl _ _ (.undef _),M⟩;obtain⟨e1,e2⟩:=dc y;refine(a1 Z base w S vs h1 h2 ?_ hl (λi L=>(hc i L).G0 y)).mono λe w' ⟨v,d,h,W,k1,k2,k3,k4,k5,k6⟩=>⟨v,d,h,W,k1,k2,k3,k4,?_,k6⟩;refine⟨by rw[e1];exact M.len,M.inj,λl B E C=>?_,λl B b q E C=>?_⟩;obtain⟨o,u,J⟩:=e2 l B E;rw[J.2.2.1];exact M.VU l o u C;obtain⟨o,u,J,U,g6,g8,g7⟩:=e2 l B E;obtain⟨N,x⟩:=M.at_ l o b q u C;exact⟨λhr=>N (by rw[<- g8.2,hr]),x.to g8.1 U g6 rfl (λi L=>by rw[g7 i L]) λi j v L _ hr=>by rw[g7 i L];exact hr.G0 y⟩;have O:∀(l:Nat) (o:Ob),((Y0 s.h g).map (Ob.XX g))[l]?=some o->∃B,F[l]?=some B/\N4 o B:=λl o e=>by
   have:l<F.length:=by rw[e1];exact KA e
   obtain⟨o2,u,J⟩:=e2 l _ (QJ this);rw[e]at u;cases u;exact⟨_,QJ this,J⟩
  refine⟨k5.JU,λl o p E C=>?_,λl o bB b q E NK hg C c el hc=>?_⟩;obtain⟨Y,N,g2,u,J,U,g6⟩:=O l o E;obtain⟨B,p',t1,t2,t3,t4,t5⟩:=k5.obj l Y p N C;exact⟨B,p',t1,t2,ω,by rw[t4,U.1],λx=>by obtain⟨y1,y2⟩:=t5 ω;exact⟨by rw[y1,u],y2⟩⟩;obtain⟨Y,N,g2,u,J,U,g6⟩:=O l o E;exact k5.shape l Y bB b q N NK ω C c el hc
 exact Oper.wp_mono (λa' w' ⟨_,d,h,W,hR,r',b',_⟩=>hk d h hR Z z W a' w' r' b') (QdG Q4 hf rfl hx g hb hd o5 eB a0 ht z S a w r b _)
def Qph(M:base<=w0.w.heap.size){K}{g}{n:TypeId}{pos}{i}{H}{r}{s}{x}{c}{J:Array TypeId}{f}{j}{k}(B:Qm P f)
  (t:JB (Qs s.fr x)=some (f,j,k)) {l:List D} (m:ym [] (Z5 j k (c.toList.map (Qs s.fr)))=true/\KC (zf [] (Z5 j k (c.toList.map (Qs s.fr)))) l) {R:D->List Ob->Prop} (F:QI P f l R)
  (u:Zn nt g=true) (y:∀d h,R d h->AX P base nt w0 K r ⟨Zb s.fr g (d.idx (W7 s.h.length [])),jG s.h [] h⟩) :
  AX P base nt w0 K ((false,⟨g,.call ⟨.value x,c,J⟩,n,pos,i,H⟩,none)::r) s:=by
 simp only[AX,Xi,qB];intro Z z q a w o b;exact Oper.wp_mono (λO N ⟨C,d,h,L,E,p,I,T,v,e⟩=>⟨λ_=>C rfl,_,_,L,v,y d h E,p,I,T,e⟩) (QdG M B rfl t [] rfl rfl trivial m.1 (F.args m.2) u z q a w o b _)
end
attribute [go_sem] D.idx Az Ob.idx W7 XY jG Ay SH
end Go.Fg
namespace Go.Fg
def eC(a:List (Nat × D)):List Nat->List (Nat × D)
 | []=>[]
 | t::r=>(t,get a t)::eC a r
attribute [go_sem] eC
def JW{G:Type}(R:Nat->Prop)(V:Nat->G->List (Nat × D))(H:Nat->G->List Ob)(a:List (Nat × D))(i:Nat)(s:St):Prop:=R i/\∃b,s=⟨V i b++a,H i b⟩
def JW.mk{G:Type}{R}{V}{H}{a}{i}(b:G)(h:R i):JW R V H a i ⟨V i b++a,H i b⟩:=⟨h,b,rfl⟩
section
variable {P:Program}{base nt:Nat}{w0:Start}{Q:Exit->St->Prop}{k:List Item}
def kO{G:Type}(f)(R)(V:Nat->G->List (Nat × D))(H:Nat->G->List Ob)(N)(b:G){c}{j}{h}{a}(p:eC j f=a)
  (l:Qo w0 ⟨j,h⟩ ⟨V 0 b++a,H 0 b⟩) (n:R 0)
  (d:∀i g,i<=N->R i->Qz P base nt w0 (SG P base nt w0 Q k (JW R V H a) N i) [.code c] .normal ⟨V i g++a,H i g⟩):Qz P base nt w0 Q (.code (.loop c)::k) .normal ⟨j,h⟩:=
 ZN (JW R V H a) N l ⟨n,b,rfl⟩ λi s m ⟨o,g,e⟩=>by subst e;exact d i g m o
end
section
variable {P:Program}{base:Nat}{w0:Start}{Q:Exit->St->Prop}{X:Cx}{nt n:Nat}{k k':List Item}{s s':St}
def We{i N:Nat}(c:i<=N)(b:i<N->hx P base w0 Q X nt n k s)(a:i=N->hx P base w0 Q X nt n k' s'):WT (decide (i<N)) (hz P base w0 Q X nt n k s) (hz P base w0 Q X nt n k' s'):=
 ⟨λh=>b (by simpa using h),λh=>a (by simp at h;omega)⟩
def Wf{i N:Nat}(c:i<=N)(b:i<N->hx P base w0 Q X nt n k s)(a:i=N->hx P base w0 Q X nt n k' s'):WT (decide ((i:Int)<(N:Int))) (hz P base w0 Q X nt n k s) (hz P base w0 Q X nt n k' s'):=
 ⟨λh=>b (by simpa using h),λh=>a (by simp at h;omega)⟩
def zg{p}[Decidable p](b:p->hx P base w0 Q X nt n k s)(a:¬ p->hx P base w0 Q X nt n k' s'):WT (decide p) (hz P base w0 Q X nt n k s) (hz P base w0 Q X nt n k' s'):=
 ⟨λh=>b (qZ h),λh=>a (CO h)⟩
def zj{c:Type}[BEq c][LawfulBEq c]{a b:c}(e:a=b->hx P base w0 Q X nt n k s)(d:a≠b->hx P base w0 Q X nt n k' s'):WT (a==b) (hz P base w0 Q X nt n k s) (hz P base w0 Q X nt n k' s'):=
 ⟨λh=>e (by simpa using h),λh=>d (by simpa using h)⟩
def zk{c:Type}[BEq c][LawfulBEq c]{a b:c}(e:a≠b->hx P base w0 Q X nt n k s)(d:a=b->hx P base w0 Q X nt n k' s'):WT (a != b) (hz P base w0 Q X nt n k s) (hz P base w0 Q X nt n k' s'):=
 ⟨λh=>e (by simpa using h),λh=>d (by simpa using h)⟩
def zl{K b}{l a}{p}[Decidable p](d:p->K8 P base w0 X nt K l s)(c:¬ p->K8 P base w0 X nt b a s'):WT (decide p) (zd P base w0 X nt K l s) (zd P base w0 X nt b a s'):=
 ⟨λh=>d (qZ h),λh=>c (CO h)⟩
def zn{K e:St->Prop}{l d:List (Bool × Oper × G)}{c:Type}[BEq c][LawfulBEq c]{a b:c}(g:a=b->K8 P base w0 X nt K l s)(f:a≠b->K8 P base w0 X nt e d s'):WT (a==b) (zd P base w0 X nt K l s) (zd P base w0 X nt e d s'):=
 ⟨λh=>g (by simpa using h),λh=>f (by simpa using h)⟩
def zo{K e:St->Prop}{l d:List (Bool × Oper × G)}{c:Type}[BEq c][LawfulBEq c]{a b:c}(g:a≠b->K8 P base w0 X nt K l s)(f:a=b->K8 P base w0 X nt e d s'):WT (a != b) (zd P base w0 X nt K l s) (zd P base w0 X nt e d s'):=
 ⟨λh=>g (by simpa using h),λh=>f (by simpa using h)⟩
end
end Go.Fg
namespace Go.Fg
open Go.RowKit (Below)
def rowFrom(b:Nat)(a:Nat->List D):Nat->List D:=λi=>a (b+i)
theorem Qpi(a):rowFrom 0 a=a:=by funext i;simp[rowFrom]
theorem G7(b)(a)(i):rowFrom b a i=a (b+i):=rfl
mutual
def D.fz(l k n h:Nat)(a:Nat->List D):D->D
 | .ref b g c e=>bif Nat.beq b l then (bif Nat.beq g k&&Nat.ble (c+e) n then .imm h e (rowFrom c a) else .undef) else .ref b g c e
 | .ptr b g i j=>bif Nat.beq b l then (bif Nat.beq g k&&Nat.blt i n&&Nat.ble j h then .ip ((a i).drop j) else .undef) else .ptr b g i j
 | .mref b g=>bif Nat.beq b l then .undef else .mref b g
 | .clo f o m=>.clo f o (zq l k n h a m)
 | .agg m=>.agg (zq l k n h a m)
 | .tup m=>.tup (zq l k n h a m)
 | d=>d
def zq(l d n b:Nat)(a:Nat->List D):List D->List D
 | []=>[]
 | c::e=>c.fz l d n b a::zq l d n b a e
end
def xl(l d n c)(a):∀b:List D,(zq l d n c a b).length=b.length
 | []=>rfl
 | _::b=>by simp[zq,xl l d n c a b]
def G8(l e n d)(a):∀(b:List D) (i:Nat),i<b.length->nth (zq l e n d a b) i=(nth b i).fz l e n d a
 | [],i,h=>by simp at h
 | c::b,0,_=>by simp[zq,nth]
 | c::b,i+1,h=>by
  have:=G8 l e n d a b i (by simpa using h);simpa[zq,nth] using this
theorem Qpj(l f n e)(d)(c)(a b):zq l f n e d (bif c then a else b)=bif c then zq l f n e d a else zq l f n e d b:=by cases c<;>rfl
def Ov(l c n b:Nat)(a:Nat->List D):List (Nat × D)->List (Nat × D)
 | []=>[]
 | (t,d)::r=>(t,d.fz l c n b a)::Ov l c n b a r
def QdI(l c n b)(a):∀(e:List (Nat × D)) (t:Nat),get (Ov l c n b a e) t=(get e t).fz l c n b a
 | [],t=>rfl
 | (u,d)::r,t=>by
  simp only[Ov,get];cases Nat.beq u t;exact QdI l c n b a r t;rfl
def Ob.fz(l c n b:Nat)(a:Nat->List D)(o:Ob):Ob:=⟨o.kd,o.gen,o.sz,o.n,λi=>zq l c n b a (o.row i)⟩
def Ow(l c n b:Nat)(a:Nat->List D):List Ob->List Ob
 | []=>[]
 | o::r=>o.fz l c n b a::Ow l c n b a r
def Ox(l c n b)(a):∀h:List Ob,Ow l c n b a h=h.map (Ob.fz l c n b a)
 | []=>rfl
 | o::r=>by simp[Ow,Ox l c n b a r]
def Ob.gone(o:Ob):Ob:=⟨.arr,o.gen+1,o.sz,0,λ_=>[]⟩
section
variable {Z:Nat->Prop}
def Qpk{N}{w}(l E n y)(t){d:D}{v}(c:Cl N w d v):Cl N w (d.fz l E n y t) v:=by
 induction c with
 | raw v=>exact .raw v
 | undef v=>exact .undef v
 | nil a=>exact .nil a
 | imm s m r a u b o g C j B q p h=>exact .imm s m r a u b o g C j B q p
 | ip k b o g q p h=>exact .ip k b o g q p
 | clo f z x g j p h=>exact .clo f z _ g (by rw[xl];exact j) (λi e=>by rw[xl]at e;rw[G8 _ _ _ _ _ _ _ e];exact h i e)
 | agg x g j p h=>exact .agg _ g (by rw[xl];exact j) (λi e=>by rw[xl]at e;rw[G8 _ _ _ _ _ _ _ e];exact h i e)
 | tup x g j p h=>exact .tup _ g (by rw[xl];exact j) (λi e=>by rw[xl]at e;rw[G8 _ _ _ _ _ _ _ e];exact h i e)
def QD.fz{h:List Ob}{t:List Pl}{w:World}{l:Nat}{o:Ob}{p:Pl}(ho:h[l]?=some o)(hp:t[l]?=some p)(hk:o.kd.ty=0)(E:∀b q,p=some (b,q)->Z b/\(∀m q',t[m]?=some (some (b,q'))->m=l)/\NI Z h t w o b q)
  (Zs:∀i,i<o.n->(o.row i).all D.XV=true) {h':List Ob} (hh:∀(m:Nat) (B:Ob),m≠l->h[m]?=some B->∃u,h'[m]?=some u/\u.gen=B.gen/\u.sz=B.sz/\u.kd.ty=B.kd.ty) {d:D} {v:Value} (r:QD Z h t w d v) :
  QD Z h' (t.set l none) w (d.fz l o.gen o.n o.sz o.row) v:=by
 have T:∀(m:Nat),m≠l->(t.set l none)[m]? = t[m]? := λm YA=>by rw[JG (Q8 YA)]
 have Og:∀b,Xp t b->Xp (t.set l none) b:=λb E m q e=>by
  by_cases K:m=l;subst K;rw[W5 (Wp hp)]at e;cases e;rw[T m K]at e;exact E m q e
 have Yh:∀b,free Z t b->free Z (t.set l none) b:=λb E=>⟨E.1,Og b E.2⟩;have EY:∀b q,p=some (b,q)->free Z (t.set l none) b:=λb q e=>⟨(E b q e).1,λm q' e'=>by
  by_cases K:m=l;subst K;rw[W5 (Wp hp)]at e';cases e';rw[T m K]at e';exact K ((E b q e).2.1 m q' e')⟩
 have CV:∀b q,p=some (b,q)->∃c el,w.heap[b]?=some (.cells c el (0,0))/\(∀i,i<o.n->(o.row i).length=o.sz)/\∃y:Nat->Nat->Value,∀i j,i<o.n->j<o.sz->w.cell? ⟨b,q+(i*o.sz+j),none⟩=some (y i j)/\Cl (free Z (t.set l none)) w (nth (o.row i) j) (y i j):=λb q e=>by
  obtain⟨c,el,h1,_,h3,h4⟩:=(E b q e).2.2;refine⟨c,el,h1,h3,λi j=>(c[q+(i*o.sz+j)]?).getD Go.undef,λi j n J=>?_⟩;obtain⟨u,hu,hr⟩:=h4 i j n J;refine⟨by rw[cell_of_row w b _ c el (0,0) h1,hu];simp[hu],?_⟩;simp only[hu,KW];have h5:=Zs i n;rw[qV]at h5;have h6:j<(o.row i).length:=by rw[h3 i n];exact J
  have h7:(nth (o.row i) j).XV=true:=h5 _ (by simp only[nth,QW,QJ h6,KW];exact Xn h6);exact(GX hr h7).mono λx hx _=>⟨Yh x hx,rfl⟩
 induction r with
 | cl d v C=>exact .cl _ _ (Qpk l o.gen o.n o.sz o.row (C.mono λb E _=>⟨Yh b E,rfl⟩))
 | ref m g s W B O a a0 z F L S I=>
  by_cases e:m=l;subst e;rw[ho]at z;cases z;rw[hp]at F;cases F;simp only[D.fz,ND,vL];cases C:(Nat.beq g o.gen&&Nat.ble (s+W) o.n);exact .cl _ _ (.undef _);simp only[vL,ZE,Wo,Ip]at C ⊢;rcases I C.1 with ⟨h1,h2⟩|⟨b,q,c,el,U,ha,G6,JI,CU⟩;subst h1;subst h2;exact .cl _ _ (.imm _ _ _ _ _ 0 0 (λ_ _=>Go.undef) (λh=>ω) ω (λi n=>ω) (λi j n=>ω) (λi j n=>ω));obtain⟨c',bZ,k1,k2,y,P⟩:=CV b q U;refine .cl _ _ (.imm _ _ _ _ _ b (q+s*o.sz) (λi j=>y (s+i) j) (λ_=>ha) CU (λi n=>k2 _ ω) (λi j n J=>⟨EY b q U,?_⟩) (λi j n J=>(P (s+i) j ω J).2));rw[<- (P (s+i) j ω J).1,VM,show q+s*o.sz+(i*o.sz+j)=q+(s*o.sz+i*o.sz+j) by omega];have V:Nat.beq m l=false:=by rw[<- Ya,Wo];exact e
  simp only[D.fz,V,zT];obtain⟨u,N,H,Y,M⟩:=hh m B e z;exact .ref m g s W u O a a0 N (by rw[T m e];exact F) (by rw[M];exact L) (by rw[H];exact S) (by rw[H,Y];exact I)
 | ptr m g i j B O a z F L S I=>
  by_cases e:m=l;subst e;rw[ho]at z;cases z;rw[hp]at F;cases F;simp only[D.fz,ND,vL];cases C:(Nat.beq g o.gen&&Nat.blt i o.n&&Nat.ble j o.sz);exact .cl _ _ (.undef _);simp only[vL,ZE,Wo,Ip,wT]at C ⊢;obtain⟨b,q,U,ha⟩:=I C.1.1;obtain⟨c',bZ,k1,k2,y,P⟩:=CV b q U;subst ha;have a1:((o.row i).drop j).length=o.sz-j:=by rw[aS,k2 i C.1.2]
  refine .cl _ _ (.ip _ b _ (λk=>y i (j+k)) (λk hk=>⟨EY b q U,?_⟩) (λk hk=>?_));rw[<- (P i (j+k) C.1.2 ω).1];congr 1;simp;rw[GC];exact(P i (j+k) C.1.2 ω).2;have V:Nat.beq m l=false:=by rw[<- Ya,Wo];exact e
  simp only[D.fz,V,zT];obtain⟨u,N,H,Y,M⟩:=hh m B e z;exact .ptr m g i j u O a N (by rw[T m e];exact F) (by rw[M];exact L) (by rw[H];exact S) (by rw[H,Y];exact I)
 | mref m g B O b z F L S I=>
  by_cases e:m=l;subst e;rw[ho]at z;cases z;exact absurd hk L.1;have V:Nat.beq m l=false:=by rw[<- Ya,Wo];exact e
  simp only[D.fz,V,zT];obtain⟨u,N,H,Y,M⟩:=hh m B e z;exact .mref m g u O b N (by rw[T m e];exact F) (by rw[M];exact L) (by rw[H];exact S) (by rw[H];exact I)
 | clo f nf cs y R hr Q=>exact .clo f nf _ y (by rw[xl];exact R) (λi n=>by rw[xl]at n;rw[G8 _ _ _ _ _ _ _ n];exact Q i n)
 | agg cs y R hr Q=>exact .agg _ y (by rw[xl];exact R) (λi n=>by rw[xl]at n;rw[G8 _ _ _ _ _ _ _ n];exact Q i n)
 | tup cs y R hr Q=>exact .tup _ y (by rw[xl];exact R) (λi n=>by rw[xl]at n;rw[G8 _ _ _ _ _ _ _ n];exact Q i n)
end
def Qo.freeze{C:Start}(L:C.pl=[])(l){M}{h:List Ob}{o:Ob}(H:h[l]?=some o)(K:o.kd.ty=0)(Q:∀i,i<o.n->(o.row i).all D.XV=true):
  Qo C ⟨M,h⟩ ⟨Ov l o.gen o.n o.sz o.row M,(Ow l o.gen o.n o.sz o.row h).set l o.gone⟩:=by
 intro Z z U nt g a w r b;have E:g.length=h.length:=r.o.len;have S:l<g.length:=by have m:=KA H;omega
 have n:g[l]?=some g[l]:=QJ S;generalize nY:g[l]=p at n;have O:∀c,Xp C.pl c:=λc i q e=>by rw[L]at e;simp at e
 have W:∀d c q:Nat,g[d]?=some (some (c,q))->C.w.heap.size<=c:=λd c q e=>by
  rcases wU c C.w.heap.size with Qb|WS;exact absurd e ((b.2.1.JU c (O c) Qb).1 d q);exact WS
 have T:∀c q,p=some (c,q)->Z c/\(∀d F,g[d]?=some (some (c,F))->d=l)/\NI Z h g w o c q:=λc q e=>by
  subst e;exact⟨b.2.2.own l c q n (W l c q n),λd F e'=>r.o.inj _ _ _ _ _ e' n,(r.o.at_ l o c q H n).2.cells K⟩
 have P:∀(d:Nat) (y:Ob),d≠l->h[d]?=some y->∃u,((Ow l o.gen o.n o.sz o.row h).set l o.gone)[d]?=some u/\u.gen=y.gen/\u.sz=y.sz/\u.kd.ty=y.kd.ty:=λd y N e=>
  ⟨y.fz l o.gen o.n o.sz o.row,by rw[JG (Q8 N),Ox,KL,e];rfl,rfl,rfl,rfl⟩
 have R:∀(d:Nat),d≠l->(g.set l none)[d]? = g[d]? := λd YA=>by rw[JG (Q8 YA)]
 have V:(g.set l none)[l]?=some none:=W5 S;have B:∀d c q:Nat,(g.set l none)[d]?=some (some (c,q))->d≠l/\g[d]?=some (some (c,q)):=λd c q e=>by
  by_cases f:d=l;subst f;rw[V]at e;cases e;exact⟨f,by rw[<- R d f];exact e⟩
 refine⟨g.set l none,⟨r.nt,r.defers,λt=>?_,⟨?_,λk Y c q F f s=>?_,λk I m f=>?_,λk I c q m f=>?_⟩⟩,b.1,⟨λc hb Qb=>?_,λk I p1 m f=>?_,λk I o2 c q m h2 hg f=>?_⟩,b.2.2.new,λk c q e h0=>b.2.2.own k c q (B _ _ _ e).2 h0⟩;show QD Z _ _ w (get (Ov l o.gen o.n o.sz o.row M) t) _;rw[QdI];exact(r.fr t).fz H n K T Q P;simp[Ox,E];exact r.o.inj k Y c q F (B _ _ _ f).2 (B _ _ _ s).2;by_cases s:k=l;subst s;rw[W5 (by rw[Ox];simp;omega)]at m;cases m;rfl;rw[JG (Q8 s),Ox,KL]at m;rw[R k s]at f;obtain⟨u,J,rfl⟩:=VT.1 m;exact r.o.VU k u J f;obtain⟨N,s⟩:=B _ _ _ f;rw[JG (Q8 N),Ox,KL]at m;obtain⟨u,J,rfl⟩:=VT.1 m;obtain⟨g1,x⟩:=r.o.at_ k u c q J s;refine⟨g1,x.to rfl rfl rfl rfl (λi _=>xl _ _ _ _ _ _) λi j v hi hj hr=>?_⟩;show QD Z _ _ w (nth (zq _ _ _ _ _ (u.row i)) j) v;rw[G8 _ _ _ _ _ _ _ hj];exact hr.fz H n K T Q P;obtain⟨k1,k2⟩:=b.2.1.JU c hb Qb;exact⟨λd q e=>k1 d q (B _ _ _ e).2,k2⟩;rw[L]at f;simp at f;rw[L]at f;simp at f
attribute [go_sem] Qpi G7 D.fz zq Qpj Ov Ob.fz Ow Ob.gone
end Go.Fg
namespace Go.Fg
def zw(f:D->D->Prop):List D->List D->Prop
 | [],[]=>True
 | a::r,b::s=>f a b/\zw f r s
 | _,_=>False
def JC:Nat->D->D->Prop
 | 0,d,c=>c=d
 | k+1,d,c=>match c with
  | .raw v=>d=.raw v
  | .undef=>True
  | .nil=>d=.nil
  | .imm z n r=>match d with
   | .imm e p h=>z=e/\n=p/\∀i,i<n->zw (JC k) (h i) (r i)
   | .nil=>n=0
   | _=>False
  | .ip b=>match d with
   | .ip a=>zw (JC k) a b
   | _=>False
  | .ref l g o n=>d=.ref l g o n
  | .ptr l g i j=>d=.ptr l g i j
  | .mref l g=>d=.mref l g
  | .clo f m b=>match d with
   | .clo q s a=>f=q/\m=s/\zw (JC k) a b
   | _=>False
  | .agg b=>match d with
   | .agg a=>zw (JC k) a b
   | _=>False
  | .tup b=>match d with
   | .tup a=>zw (JC k) a b
   | _=>False
def vW{f}(h:∀d,f d d):∀l,zw f l l
 | []=>trivial
 | a::r=>⟨h a,vW h r⟩
def zx:∀(k:Nat) (d:D),JC k d d
 | 0,_=>rfl
 | k+1,d=>by cases d<;>simp[JC]<;>first|exact vW (zx k) _|exact λ_ _=>vW (zx k) _
theorem Qpm(k)(l):zw (JC k) l l=True:=eq_true (vW (zx k) l)
def yn{f}:∀{l m:List D},zw f l m->m.length=l.length/\∀i,i<l.length->f (nth l i) (nth m i)
 | [],[],_=>⟨rfl,λi c=>by simp at c⟩
 | [],_::_,h=>h.elim
 | _::_,[],h=>h.elim
 | a::r,b::s,h=>by
  obtain⟨e,d⟩:=yn h.2;refine⟨by simp[e],λi c=>?_⟩;cases i with
  | zero=>exact h.1
  | succ i=>have:=d i (by simpa using c);simpa[nth] using this
def Oy:∀(k:Nat) {N:Nat->Prop} {w:World} {d q:D} {v:Value},JC k d q->Cl N w d v->Cl N w q v
 | 0,_,_,d,q,v,h,c=>by have h:q=d:=h;subst h;exact c
 | k+1,N,w,d,q,v,h,c=>by
  cases q<;>simp only[JC]at h;case raw=>subst h;exact c
  case undef=>exact .undef _
  case nil=>subst h;exact c
  case imm z n r=>
   split at h;obtain⟨rfl,rfl,h⟩:=h;cases c with
   | imm _ _ _ a y b o e C s B t g=>
    exact .imm _ _ _ a y b o e C s (λi l=>by rw[(yn (h i l)).1];exact B i l) t (λi j l m=>Oy k ((yn (h i l)).2 j (by rw[B i l];exact m)) (g i j l m))
   subst h;cases c with
   | nil a=>exact .imm _ _ _ _ _ 0 0 (λ_ _=>Go.undef) (λh=>ω) ω (λi l=>ω) (λi j l=>ω) (λi j l=>ω)
   exact h.elim
  case ip x=>
   split at h;obtain⟨u,p⟩:=yn h;cases c with
   | ip _ b o e t g=>exact .ip _ b o e (λj m=>t j ω) (λj m=>Oy k (p j ω) (g j ω))
   exact h.elim
  case ref=>subst h;exact c
  case ptr=>subst h;exact c
  case mref=>subst h;exact c
  case clo f E x=>
   split at h;obtain⟨rfl,rfl,h⟩:=h;obtain⟨u,p⟩:=yn h;cases c with
   | clo _ _ _ e s g=>exact .clo _ _ _ e ω (λj m=>Oy k (p j ω) (g j ω))
   exact h.elim
  case agg x=>
   split at h;obtain⟨u,p⟩:=yn h;cases c with
   | agg _ e s g=>exact .agg _ e ω (λj m=>Oy k (p j ω) (g j ω))
   exact h.elim
  case tup x=>
   split at h;obtain⟨u,p⟩:=yn h;cases c with
   | tup _ e s g=>exact .tup _ e ω (λj m=>Oy k (p j ω) (g j ω))
   exact h.elim
def kP:∀(k:Nat) {Z:Nat->Prop} {h:List Ob} {z:List Pl} {w:World} {d m:D} {v:Value},JC k d m->QD Z h z w d v->QD Z h z w m v
 | 0,_,_,_,_,d,m,v,e,c=>by have e:m=d:=e;subst e;exact c
 | k+1,Z,h,z,w,d,m,v,e,c=>by
  cases c with
  | cl _ _ K=>exact .cl _ _ (Oy (k+1) e K)
  | ref l g B C o p a E t s u x q=>
   cases m<;>simp only[JC,reduceCtorEq]at e;exact .cl _ _ (.undef _);cases e;exact .ref l g B C o p a E t s u x q
  | ptr l g i j o p a t s u x q=>
   cases m<;>simp only[JC,reduceCtorEq]at e;exact .cl _ _ (.undef _);cases e;exact .ptr l g i j o p a t s u x q
  | mref l g o p b t s u x q=>
   cases m<;>simp only[JC,reduceCtorEq]at e;exact .cl _ _ (.undef _);cases e;exact .mref l g o p b t s u x q
  | clo f L J n F r=>
   cases m<;>simp only[JC,reduceCtorEq]at e;exact .cl _ _ (.undef _);obtain⟨rfl,rfl,e⟩:=e;obtain⟨I,y⟩:=yn e;exact .clo _ _ _ n ω (λj H=>kP k (y j ω) (r j ω))
  | agg J n F r=>
   cases m<;>simp only[JC,reduceCtorEq]at e;exact .cl _ _ (.undef _);obtain⟨I,y⟩:=yn e;exact .agg _ n ω (λj H=>kP k (y j ω) (r j ω))
  | tup J n F r=>
   cases m<;>simp only[JC,reduceCtorEq]at e;exact .cl _ _ (.undef _);obtain⟨I,y⟩:=yn e;exact .tup _ n ω (λj H=>kP k (y j ω) (r j ω))
def Told(R:D->List Ob->Prop)(d:D)(h:List Ob):Prop:=∃a,JC 6 d a/\R a h
def QM.tell{P}{f}{F}{a}{R}(h:QM P f F a (Told R)):QM P f F a R:=λZ b w e c q p o l n=>
 (h Z b w e c q p o l n).mono λ_ _ ⟨v,d,m,u,k,⟨t,s,r⟩,j,i,g⟩=>⟨v,t,m,u,k,r,j,kP 6 s i,g⟩
def QI.tell{P}{f}{a}{R}(h:QI P f a (Told R)):QI P f a R:=QM.tell h
def QM.QdJ{P}{f}{F}{cs' b}{R}(h:QM P f F b R)(e:zw (JC 6) cs' b):QM P f F cs' R:=λZ a w d c l k j n g=>by
 obtain⟨p,m⟩:=yn e;exact h Z a w d c l k j ω λi o=>kP 6 (m i ω) (g i ω)
def Ls(a:List (Nat × D)):List (Nat × D)->Prop
 | []=>True
 | (t,d)::r=>JC 6 (get a t) d/\Ls a r
def QdK{a}:∀{r:List (Nat × D)},Ls a r->∀t d,(t,d)∈r->JC 6 (get a t) d
 | [],_,_,_,h=>by cases h
 | (u,e)::r,h,t,d,b=>by
  rcases QK.1 b with h1|h1;cases h1;exact h.1;exact QdK h.2 t d h1
def eE(o a:Ob):Prop:=a.gen=o.gen/\a.sz=o.sz/\a.n=o.n/\a.kd.Lc o.kd/\∀i,i<o.n->zw (JC 6) (o.row i) (a.row i)
def Lu:List Ob->List Ob->Prop
 | [],[]=>True
 | o::r,b::a=>eE o b/\Lu r a
 | _,_=>False
def QdL:∀{h b:List Ob},Lu h b->b.length=h.length/\∀(l:Nat) (a:Ob),b[l]?=some a->∃o,h[l]?=some o/\eE o a
 | [],[],_=>⟨rfl,λl a e=>by simp at e⟩
 | [],_::_,h=>h.elim
 | _::_,[],h=>h.elim
 | o::r,a::i,h=>by
  obtain⟨g,f⟩:=QdL h.2;refine⟨by simp[g],λl u e=>?_⟩;cases l with
  | zero=>simp at e;subst e;exact⟨o,rfl,h.1⟩
  | succ l=>simp at e;obtain⟨v,d,c⟩:=f l u e;exact⟨v,by simpa using d,c⟩
def Wk.tell{m}{V z}{h E}(hf:Ls V z)(B:Lu h E):Wk m ⟨V,h⟩ ⟨z,E⟩:=λZ W nt N a w r=>by
 obtain⟨h1,P⟩:=QdL B;have y:∀(l:Nat) (o:Ob),h[l]?=some o->∃k,E[l]?=some k/\eE o k:=λl o e=>by
  have:l<E.length:=by rw[h1];exact KA e
  obtain⟨o2,n,c⟩:=P l _ (QJ this);rw[e]at n;cases n;exact⟨_,QJ this,c⟩
 have M:∀{d:D} {v:Value},QD Z h N w d v->QD Z E N w d v:=λr=>by
  induction r with
  | cl d v hc=>exact .cl d v hc
  | ref l g Q R o p a S u s J K I=>
   obtain⟨k,n,c⟩:=y l o u;exact .ref l g Q R k p a S n s (by rw[c.2.2.2.1.1];exact J) (by rw[c.1];exact K) (λe=>by rw[c.2.1];exact I (by rw[e,c.1]))
  | ptr l g i j o p a u s J K I=>
   obtain⟨k,n,c⟩:=y l o u;exact .ptr l g i j k p a n s (by rw[c.2.2.2.1.1];exact J) (by rw[c.1];exact K) (λe=>by rw[c.2.1];exact I (by rw[e,c.1]))
  | mref l g o p b u s J K I=>
   obtain⟨k,n,c⟩:=y l o u;exact .mref l g k p b n s (by rw[c.2.2.2.1.1];exact J) (by rw[c.1];exact K) (λe=>I (by rw[e,c.1]))
  | clo f Y L F B C H=>exact .clo f Y L F B H
  | agg L F B C H=>exact .agg L F B H
  | tup L F B C H=>exact .tup L F B H
 refine⟨N,⟨r.nt,r.defers,λt=>?_,⟨by rw[h1];exact r.o.len,r.o.inj,λl k u s=>?_,λl k b q u s=>?_⟩⟩,λ_ h=>h,λl o p _ u s=>?_⟩;rcases QcU z t with h1|h1;show QD Z E N w (get z t) _;rw[h1];exact .cl _ _ (.undef _);exact kP 6 (QdK hf _ _ h1) (M (r.fr t));obtain⟨o,n,c⟩:=P l k u;rw[c.2.2.1];exact r.o.VU l o n s;obtain⟨o,n,c,h5,h6,T,U⟩:=P l k u;obtain⟨g1,x⟩:=r.o.at_ l o b q n s;exact⟨λC=>g1 (by rw[<- T.2,C]),x.to T.1 h5 h6 rfl (λi O=>(yn (U i O)).1) λi j v O hj C=>kP 6 ((yn (U i O)).2 j hj) (M C)⟩;obtain⟨k,n,c⟩:=y l o u;exact⟨k,n,s,c.1,c.2.1,c.2.2.2.1.1⟩
def Qo.tell{e}{d a}{h c}(b:Ls d a/\Lu h c):Qo e ⟨d,h⟩ ⟨a,c⟩:=(Wk.tell b.1 b.2).up
def Qo.toT{d:Start}(k){f a}{h b:List Ob}(c:Ls f a/\Lu h (b++h.drop k)/\G1 k a=true/\BE k b/\b.length=k)(g:d.F.length<=k:=by exact RN rfl):Qo d ⟨f,h⟩ ⟨a,b⟩:=by
 refine Qo.trans (Qo.tell ⟨c.1,c.2.1⟩) ?_;have e:(b++h.drop k).take k=b:=by rw[List.take_append_of_le_length ω,List.take_of_length_le ω]
 have:=Wk.drop (m:=d.F.length) k g (fr:=a) (h:=b++h.drop k) c.2.2.1 (by rw[e];exact c.2.2.2.1);rw[e]at this;exact this.up
section
variable {k:Nat}{d:D}
theorem Qpn:JC k d d=True:=eq_true (zx k d)
theorem QdM{v}:JC (k+1) d (.raw v)=(d=.raw v):=rfl
theorem Qpo:JC (k+1) d .undef=True:=rfl
theorem Qpp:JC (k+1) d .nil=(d=.nil):=rfl
theorem SK{z n a c}{r b}:JC (k+1) (.imm a c b) (.imm z n r)=(z=a/\n=c/\∀i,i<n->zw (JC k) (b i) (r i)):=rfl
theorem Qpq{z n}{r}:JC (k+1) .nil (.imm z n r)=(n=0):=rfl
theorem Qpr{l g o n}:JC (k+1) d (.ref l g o n)=(d=.ref l g o n):=rfl
theorem Qps{l g i j}:JC (k+1) d (.ptr l g i j)=(d=.ptr l g i j):=rfl
theorem Qpt{l g}:JC (k+1) d (.mref l g)=(d=.mref l g):=rfl
theorem Qpu{b a}:JC (k+1) (.ip a) (.ip b)=zw (JC k) a b:=rfl
theorem Qpv{f c}{b e}{g a}:JC (k+1) (.clo c e a) (.clo f b g)=(f=c/\b=e/\zw (JC k) a g):=rfl
theorem QdN{b a}:JC (k+1) (.agg a) (.agg b)=zw (JC k) a b:=rfl
theorem Qpw{b a}:JC (k+1) (.tup a) (.tup b)=zw (JC k) a b:=rfl
theorem QdO{f}:zw f [] []=True:=rfl
theorem o7{f}{a b}{r s}:zw f (a::r) (b::s)=(f a b/\zw f r s):=rfl
end
attribute [go_sem] Qpn QdM Qpo Qpp SK Qpq Qpr Qps Qpt Qpu Qpv QdN Qpw QdO o7 Qpm Ls eE Lu
end Go.Fg
