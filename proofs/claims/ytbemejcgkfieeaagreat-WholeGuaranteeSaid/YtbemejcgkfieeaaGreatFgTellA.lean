/- Contracts and laws on the way to the statement. No conditions. -/
import Derived.Test.YtbemejcgkfieeaaGreatFgMapHA
import Derived.Scope
import Derived.OrdersHeld
set_option maxRecDepth 100000
set_option maxHeartbeats 16000000
set_option linter.unusedVariables false
set_option linter.unusedSimpArgs false
set_option linter.unusedSectionVars false
set_option linter.defProp false
namespace Go.Fg
open Go.RowKit (Below)
variable {Z:Nat->Prop}
structure Cx where
 L:Jt
 E:DB
def yJ(X:Cx)(s:St):Op->Ev
 | .move x=>some (True,Qr s.fr x)
 | .assign x=>some (True,Qr s.fr x)
 | .pick c x y=>match Qr s.fr c with
  | .raw (.bool b)=>some (True,bif b then Qr s.fr x else Qr s.fr y)
  | _=>none
 | .binOp g t x y _=>match cT X.L g t (Qr s.fr x) (Qr s.fr y) with
  | some r=>some r
  | none=>dK X.E g t (Qr s.fr x) (Qr s.fr y)
 | .unOp u _ x=>match u,Qr s.fr x with
  | .not,.raw (.bool b)=>some (True,.raw (.bool (!b)))
  | .neg,.raw (.int k n)=>some (True,.raw (.int k (k.wrap (0-n))))
  | .xor,.raw (.int k n)=>some (True,.raw (.int k (bits .xor k (if k.signed then -1 else k.max) n)))
  | _,_=>none
 | .convert a b x=>cY X.L a b (Qr s.fr x)
 | .build t parts=>match dC X.L s.fr t parts.toList with
  | some d=>some (True,d)
  | none=>none
 | .load t x=>Lz X.L s.h t (Qr s.fr x)
 | .nilCheck x=>bif (Qr s.fr x).there then some (True,Qr s.fr x) else none
 | .fieldAddr t x f=>cU X.L t f (Qr s.fr x)
 | .field t x f=>cV X.L t f (Qr s.fr x)
 | .indexAddr t x i=>cW X.L s.h t (Qr s.fr x) (Qr s.fr i)
 | .index t x i=>cX X.L t (Qr s.fr x) (Qr s.fr i)
 | .extract x i=>match Qr s.fr x with
  | .tup l=>some (i<l.length,nth l i)
  | _=>none
 | .slice t x p q o=>match o with
  | none=>dG X.L s.fr s.h t (Qr s.fr x) p q
  | some _=>none
 | .makeFunc v first z=>match v,first with
  | .func f,⟨j⟩=>some (True,.clo f j.length ((j++z.toList).map (Qr s.fr)))
  | _,_=>none
 | .call ⟨.builtin b,⟨e⟩,⟨w⟩⟩=>match b,e,w with
  | .len,[x],[t]=>match cZ X.L t (Qr s.fr x) with
   | some r=>some r
   | none=>dW X.L s.h t (Qr s.fr x)
  | .max,[x,y],_=>match Qr s.fr x,Qr s.fr y with
   | .raw (.int k m),.raw (.int _ n)=>some (True,.raw (.int k (max m n)))
   | _,_=>none
  | .min,[x,y],_=>match Qr s.fr x,Qr s.fr y with
   | .raw (.int k m),.raw (.int _ n)=>some (True,.raw (.int k (min m n)))
   | _,_=>none
  | _,_,_=>none
 | .lookup t x i h=>match dV X.L s.h t (Qr s.fr x) (Qr s.fr i) h with
  | some r=>some r
  | none=>bif h then eu X.L X.E s.h t (Qr s.fr x) (Qr s.fr i) else none
 | _=>none
structure q9 (P:Program) (X:Cx):Prop where
 L:Jm P X.L
 E:AR P X.E
def QdB{P X}(g:q9 P X){base nt s}{o:Oper}{p d}(h:yJ X s o.op=some (p,d))(j:p):WL P base nt o s d:=by
 unfold yJ at h;split at h;case h_1 x e=>simp only[Q7,Zg]at h;obtain⟨rfl,rfl⟩:=h;exact QcN (.inl e)
 case h_2 x e=>simp only[Q7,Zg]at h;obtain⟨rfl,rfl⟩:=h;exact QcN (.inr e)
 case h_3 c x y e=>split at h;rename_i b E;simp only[Q7,Zg]at h;obtain⟨rfl,rfl⟩:=h;exact Qox e E;cases h
 case h_4 H t x y F e=>split at h;rename_i r l;simp only[Q7]at h;subst h;exact Qow g.L e l j;exact Qo5 g.E e h
 case h_5 u t x e=>split at h;rename_i b hx;simp only[Q7,Zg]at h;obtain⟨rfl,rfl⟩:=h;exact QoE e rfl hx;rename_i k n hx;simp only[Q7,Zg]at h;obtain⟨rfl,rfl⟩:=h;exact QoF e rfl hx;rename_i k n hx;simp only[Q7,Zg]at h;obtain⟨rfl,rfl⟩:=h;exact QoG e rfl hx;cases h
 case h_6 a b x e=>exact QoI g.L e h
 case h_7 t parts e=>split at h;rename_i N C;simp only[Q7,Zg]at h;obtain⟨rfl,rfl⟩:=h;exact Qo0 g.L e C;cases h
 case h_8 t x e=>exact QcQ g.L e h j
 case h_9 x e=>obtain⟨B,q⟩:=km h;simp only[Q7,Zg]at q;obtain⟨rfl,rfl⟩:=q;exact QoH e rfl B
 case h_10 t x f e=>exact Qoy g.L e h j
 case h_11 t x f e=>exact Qoz g.L e h j
 case h_12 t x i e=>exact QoC g.L e h j
 case h_13 t x i e=>exact QcS g.L e h j
 case h_14 x i e=>split at h;rename_i O hx;simp only[Q7,Zg]at h;obtain⟨rfl,rfl⟩:=h;exact QoD e hx j;cases h
 case h_15 t x K L J e=>split at h;exact Qo4 g.L e h j;cases h
 case h_16 M first R e=>split at h;simp only[Q7,Zg]at h;obtain⟨rfl,rfl⟩:=h;exact QoL e;cases h
 case h_17 b w Q e=>split at h;split at h;rename_i r l;simp only[Q7]at h;subst h;exact db g.L e l;exact Qpl g.L e rfl h j;split at h;rename_i k m z n hx v;simp only[Q7,Zg]at h;obtain⟨rfl,rfl⟩:=h;exact QoJ e hx v;cases h;split at h;rename_i k m z n hx v;simp only[Q7,Zg]at h;obtain⟨rfl,rfl⟩:=h;exact QoK e hx v;cases h;cases h
 case h_18 t x i I e=>split at h;rename_i r l;simp only[Q7]at h;subst h;exact look_ok g.L e l j;obtain⟨rfl,q⟩:=km h;exact QpA g.L g.E e q j
 case h_19=>cases h
def AV(X:Cx)(s:St):Op->Option (Prop × List Ob × D)
 | .alloc t=>match ty X.L t with
  | some y=>some (True,s.h++[⟨.one,0,(y.zero.map Ke).length,1,λ_=>y.zero.map Ke⟩],.ptr s.h.length 0 0 0)
  | none=>none
 | .box _ x=>match YA (Qr s.fr x) with
  | some f=>some (True,s.h++[⟨.one,0,f.length,1,λ_=>f⟩],.ptr s.h.length 0 0 0)
  | none=>none
 | .store t a x=>match SI X.L s.h t (Qr s.fr a) (Qr s.fr x) with
  | some (p,c)=>some (p,c,.undef)
  | none=>none
 | .buildSlice t e parts=>dD X.L s.fr s.h t e parts.toList
 | .call ⟨.builtin b,⟨d⟩,⟨j⟩⟩=>match b,d,j with
  | .append,[x,y],[t,g]=>bif Nat.beq t g then Dx X.L s.h t (Qr s.fr x) (Qr s.fr y) else none
  | .delete,[x,i],[t,_]=>match dZ X.L s.h t (Qr s.fr x) (Qr s.fr i) with
   | some (p,c)=>some (p,c,.tup [])
   | none=>none
  | _,_,_=>none
 | .makeMap t h=>match h with
  | none=>OF X.L s.h t
  | some (.const (.int _ n))=>bif decide (0<=n) then OF X.L s.h t else none
  | some _=>none
 | .mapUpdate t x i v=>match Hj X.L s.h t (Qr s.fr x) (Qr s.fr i) (Qr s.fr v) with
  | some (p,c)=>some (p,c,.undef)
  | none=>match ez X.L X.E s.h t (Qr s.fr x) (Qr s.fr i) (Qr s.fr v) with
   | some (p,c)=>some (p,c,.undef)
   | none=>none
 | .range t x=>eh X.L s.h t (Qr s.fr x)
 | _=>none
def QpC{L h}{t:TypeId}{s x r}(e:Dx L h t s x=some r):s=.nil\/∃l g a b,s=.ref l g a b:=by unfold Dx at e;split at e;split at e;exact .inl rfl;exact .inr ⟨_,_,_,_,rfl⟩;cases e;cases e
def QdC{P X}(f:q9 P X){base nt s}{o:Oper}{p B d}(h:AV X s o.op=some (p,B,d))(j:p):ko P base nt o s B d:=by
 unfold AV at h;split at h;case h_1 t c=>split at h;rename_i y E;simp only[Q7,Zg]at h;obtain⟨rfl,rfl,rfl⟩:=h;exact QoR f.L c E;cases h
 case h_2 t x c=>split at h;rename_i K H;simp only[Q7,Zg]at h;obtain⟨rfl,rfl,rfl⟩:=h;exact QoQ c H;cases h
 case h_3 t a x c=>split at h;rename_i u r m;simp only[Q7,Zg]at h;obtain⟨rfl,rfl,rfl⟩:=h;exact QoP f.L c m j;cases h
 case h_4 t z parts c=>exact Qo1 f.L c h j
 case h_5 b C L c=>split at h;obtain⟨w,q⟩:=km h;have w:=Sw w;subst w;rcases QpC q with e|⟨l,g,I,z,e⟩;rw[e]at q;exact QoW f.L c e q j;rw[e]at q;exact QoX f.L c e q j;split at h;rename_i u r m;simp only[Q7,Zg]at h;obtain⟨rfl,rfl,rfl⟩:=h;exact Qpn f.L c m j;cases h;cases h
 case h_6 t J c=>split at h;exact Qdj f.L (.inl rfl) c h;rename_i k n;obtain⟨F,q⟩:=km h;exact Qdj f.L (.inr ⟨k,n,rfl,qw F⟩) c q;cases h
 case h_7 t x i v c=>split at h;rename_i u r m;simp only[Q7,Zg]at h;obtain⟨rfl,rfl,rfl⟩:=h;exact Qpm f.L c m j;split at h;rename_i u r m;simp only[Q7,Zg]at h;obtain⟨rfl,rfl,rfl⟩:=h;exact QpB f.L f.E c m j;cases h
 case h_8 t x c=>exact Qpq f.L c h j
 case h_9=>cases h
abbrev G:=Option (Option Nat × Bool)
def guardOf(a:Array Oper)(o:Oper):G:=match o.guard with
 | none=>none
 | some (j,b)=>some ((a[j]?).bind (·.dst),b)
def strip(o : Oper): Oper := ⟨o.dst, o.op, o.type, "", #[], none⟩
theorem QpD{P}{o:Oper}{a w K Q}:(strip o).wp P a w K Q=o.wp P a w K Q:=rfl
def B1(a:Array Oper):List (Oper × G):=a.toList.map λo=>(strip o,guardOf a o)
def OI(a:Array Value)(t:Nat):Option Bool:=match a[t]? with
 | some (.bool b)=>some b
 | _=>none
def XM(g:G)(a:Array Value):Bool:=match g with
 | none=>true
 | some (none,_)=>false
 | some (some t,b)=>OI a t==some b
def OJ(c o a):Region.wanted o (yielded c a)=XM (guardOf c o) a:=by
 unfold Region.wanted guardOf XM;cases g:o.guard with
 | none=>rfl
 | some e=>
  obtain⟨j,b⟩:=e;dsimp only;cases d:(c[j]?).bind (·.dst) with
  | none=>simp[yielded,d]
  | some t=>
   simp only[yielded,d,cF,OI];cases f:a[t]? with
   | none=>rfl
   | some v=>cases v<;>rfl
def qA(P:Program)(Q:Exit->Act->World->Prop):List (Oper × G)->Act->World->Prop
 | [],a,w=>Q .normal a w
 | (o,g)::r,a,w=>if XM g a.tmps=true then o.wp P a w (qA P Q r) Q else qA P Q r (a.put o.dst Go.undef) w
def o8{P}{b:Array Oper}{Q}:∀(n i:Nat) (a:Act) (w:World),i+n=b.size->qA P Q ((B1 b).drop i) a w->wpOps P b Q (List.range' i n) a w
 | 0,i,a,w,m,h=>by have:(B1 b).drop i=[]:=bV (by simp[B1];omega);rw[this]at h;exact h
 | n+1,i,a,w,m,h=>by
  have Qb:i<b.size:=ω;have o:(B1 b).drop i=(strip b[i],guardOf b b[i])::(B1 b).drop (i+1):=by rw[Sm (by simp[B1];omega)];simp[B1]
  rw[o]at h;rw[List.range'_succ];simp only[wpOps,jY Qb,OJ];simp only[qA]at h;split at h;rename_i g;rw[Qe g];refine .inl ?_;have d:∀(K k:Act->World->Prop),(∀a w,K a w->k a w)->b[i].wp P a w K Q->b[i].wp P a w k Q:=by
   intro K k j c;unfold Oper.wp at *;generalize (execOp a.eval b[i]).run P w=r at *;cases r with
   | ok x l=>
    cases x<;>simp only[Oper.upon]at c ⊢<;>first|exact j _ _ c|exact c|skip
    exact c.mono λe p f=>by cases e<;>first|exact j _ _ f|exact f
    exact c.mono λv p f=>j _ _ f
   | halt x l=>cases x<;>exact c
  rw[QpD]at h;exact d _ _ (λa w=>o8 n (i+1) a w ω) h;rename_i g;rw[Qd g];exact o8 n (i+1) _ w ω h
def QpE{P c b Q a w}(h:qA P Q (B1 b) a w):(Code.region c b false).wp P Q a w:=
 wp_region (by rw[List.range_eq_range'];exact o8 b.size 0 a w ω (zC h))
structure Start where
 w:World
 F:List Ob
 pl:List Pl
structure LO (Z:Nat->Prop) (w0:Start) (pl:List Pl) (w:World):Prop where
 new:∀b,w.heap.size<=b->Z b
 own:∀(l b q:Nat),pl[l]?=some (some (b,q))->w0.w.heap.size<=b->Z b
def LO.step{Z d h h' c g}{w a:World}(S:LO Z d c w)(T:Tr h c w h' g a)(p:w.heap.size<=a.heap.size):LO Z d g a where
 new:=λb r=>S.new b ω
 own:=λl b q e n=>by rcases xI b w.heap.size with Qb|o;by_cases f:XL c b;exact absurd e ((T.Kz b f Qb).1 l q);obtain⟨j,m⟩:=Oa.1 f;obtain⟨i,k⟩:=Oa.1 m;exact S.own j b i (Classical.not_not.1 k) n;exact S.new b o
def LO.start{Z a}{w0:Start}{h c}(R:Zo Z a h c w0.w)(d:∀b,w0.w.heap.size<=b->Z b):LO Z w0 c w0.w where
 new:=d
 own:=λl b q e f=>absurd (R.lt e).1 ω
def Vn(Z:Nat->Prop)(b:Nat)(a:Start)(h:List Ob)(c:List Pl)(w:World):Prop:=Below b a.w w/\Tr a.F a.pl a.w h c w/\LO Z a c w
def Vn.step{Z a d h h' e f w c}(S:Vn Z a d h e w)(T:Tr h e w h' f c)(b:Below a w c):Vn Z a d h' f c:=⟨S.1.trans b,S.2.1.trans T,S.2.2.step T b.size⟩
section
variable (P:Program)(base nt:Nat)(w0:Start)
def SS(_:Start)(_:Nat->Prop):Prop:=True
def lift(Z:Nat->Prop)(Q:Exit->St->Prop)(e:Exit)(a:Act)(w:World):Prop:=∃s b,Q e s/\Rel Z base nt s b a w/\Vn Z base w0 s.h b w
def A(c:Code)(Q:Exit->St->Prop)(s:St):Prop:=∀(Z:Nat->Prop),SS w0 Z->∀b a w,Rel Z base nt s b a w->Vn Z base w0 s.h b w->c.wp P (lift base nt w0 Z Q) a w
def AG(l:List (Oper × G))(Q:Exit->St->Prop)(s:St):Prop:=∀(Z:Nat->Prop),SS w0 Z->∀b a w,Rel Z base nt s b a w->Vn Z base w0 s.h b w->qA P (lift base nt w0 Z Q) l a w
end
inductive Item where
 | code (c:Code)
 | ops (l:List (Oper × G))
 | inBlock (id:Nat)
 | inScope
def QA(P:Program)(a d:Nat)(b:Start)(Q:Exit->St->Prop):List Item->Exit->St->Prop
 | [],e,s=>Q e s
 | .code c::k,.normal,s=>A P a d b c (QA P a d b Q k) s
 | .code _::k,e,s=>QA P a d b Q k e s
 | .ops l::k,.normal,s=>AG P a d b l (QA P a d b Q k) s
 | .ops _::k,e,s=>QA P a d b Q k e s
 | .inBlock id::k,.exit j,s=>if j=id then QA P a d b Q k .normal s else QA P a d b Q k (.exit j) s
 | .inBlock _::k,e,s=>QA P a d b Q k e s
 | .inScope::_,.goto _,_=>False
 | .inScope::k,e,s=>QA P a d b Q k e s
inductive Tree where
 | done (e:Exit) (s:St)
 | stop (k:List Item) (s:St)
 | vc (p:Prop) (t:Tree)
 | ite (b:Bool) (t e:Tree)
 | fail
def Tree.holds(P:Program)(a d:Nat)(c:Start)(Q:Exit->St->Prop):Tree->Prop
 | .done e s=>Q e s
 | .stop k s=>QA P a d c Q k .normal s
 | .vc p t=>p/\t.holds P a d c Q
 | .ite b t e=>(b=true->t.holds P a d c Q)/\(b=false->e.holds P a d c Q)
 | .fail=>False
def kv(a:Nat):List Item->Option (List Item)
 | []=>none
 | .inBlock j::k=>bif Nat.beq a j then some k else kv a k
 | _::k=>kv a k
def Zi(a:List (Nat × D))(t:Option Nat)(d:D):List (Nat × D):=match t with
 | none=>a
 | some t=>put a t d
def Zr(a:Nat):Option Nat->Bool
 | none=>true
 | some t=>Nat.blt t a
def Fl:Bool->Bool->Bool
 | true,x=>x
 | false,x=>!x
def QdD(b x):Fl b x=(x==b):=by cases b<;>cases x<;>rfl
def exec(X:Cx)(e:Nat):Nat->List Item->St->Tree
 | 0,k,s=>.stop k s
 | _+1,[],s=>.done .normal s
 | n+1,.inBlock _::k,s=>exec X e n k s
 | n+1,.inScope::k,s=>exec X e n k s
 | n+1,.code c::k,s=>match c with
  | .skip=>exec X e n k s
  | .label _=>exec X e n k s
  | .seq a b=>exec X e n (.code a::.code b::k) s
  | .cond c a b=>match Qr s.fr c with
   | .raw (.bool x)=>.ite x (exec X e n (.code a::k) s) (exec X e n (.code b::k) s)
   | _=>.fail
  | .block id c=>exec X e n (.code c::.inBlock id::k) s
  | .scope c=>exec X e n (.code c::.inScope::k) s
  | .exit id=>match kv id k with
   | some i=>exec X e n i s
   | none=>.done (.exit id) s
  | .ret=>.done .ret s
  | .region id f h=>bif h then .stop (.code (.region id f h)::k) s else exec X e n (.ops (B1 f)::k) s
  | c=>.stop (.code c::k) s
 | n+1,.ops []::k,s=>exec X e n k s
 | n+1,.ops ((o,g)::r)::k,s=>match g with
  | none=>match yJ X s o.op with
   | some (p,d)=>bif Zr e o.dst then .vc p (exec X e n (.ops r::k) ⟨Zi s.fr o.dst d,s.h⟩) else .fail
   | none=>match AV X s o.op with
    | some (p,j,d)=>bif Zr e o.dst then .vc p (exec X e n (.ops r::k) ⟨Zi s.fr o.dst d,j⟩) else .fail
    | none=>.stop (.ops ((o,none)::r)::k) s
  | some (none,_)=>bif Zr e o.dst then exec X e n (.ops r::k) ⟨Zi s.fr o.dst (.raw Go.undef),s.h⟩ else .fail
  | some (some t,b)=>match get s.fr t with
   | .raw (.bool x)=>.ite (Fl b x) (exec X e n (.ops ((o,none)::r)::k) ⟨put s.fr t (.raw (.bool b)),s.h⟩)
     (bif Zr e o.dst then exec X e n (.ops r::k) ⟨Zi (put s.fr t (.raw (.bool (!b)))) o.dst (.raw Go.undef),s.h⟩ else .fail)
   | .raw (.tuple _)=>bif Zr e o.dst then exec X e n (.ops r::k) ⟨Zi s.fr o.dst (.raw Go.undef),s.h⟩ else .fail
   | _=>.fail
section
variable {P:Program}{base nt:Nat}{w0:Start}{Q:Exit->St->Prop}
def A.mono{c Q d s}(h:A P base nt w0 c Q s)(i:∀e s,Q e s->d e s):A P base nt w0 c d s:=
 λZ z g a w r b=>wp_mono (h Z z g a w r b) λ_ _ _ ⟨f,m,l,k,j⟩=>⟨f,m,i _ _ l,k,j⟩
def QpF{x y s}(h:A P base nt w0 x (λe c=>match e with | .normal=>A P base nt w0 y Q c|e=>Q e c) s):A P base nt w0 (.seq x y) Q s:=by
 intro Z z k a w r b;refine wp_seq (wp_mono (h Z z k a w r b) λe n j m=>?_);obtain⟨c,i,g,f,d⟩:=m;cases e with
 | normal=>exact g Z z i n j f d
 | exit id=>exact⟨c,i,g,f,d⟩
 | goto l=>exact⟨c,i,g,f,d⟩
 | ret=>exact⟨c,i,g,f,d⟩
 | panic o=>exact⟨c,i,g,f,d⟩
 | outgrown=>exact⟨c,i,g,f,d⟩
def QpG{n c s}(h:A P base nt w0 c (λe d=>match e with | .exit j=>if j=n then Q .normal d else Q (.exit j) d|e=>Q e d) s):A P base nt w0 (.block n c) Q s:=by
 intro Z z o a w r b;refine wp_block (wp_mono (h Z z o a w r b) λe u q p=>?_);obtain⟨d,k,f,i,g⟩:=p;cases e with
 | exit j=>simp only[Exit.inBlock];dsimp only at f;split;rename_i m;rw[Qe m]at f;exact⟨d,k,f,i,g⟩;rename_i m;rw[Qd m]at f;exact⟨d,k,f,i,g⟩
 | normal=>exact⟨d,k,f,i,g⟩
 | goto l=>exact⟨d,k,f,i,g⟩
 | ret=>exact⟨d,k,f,i,g⟩
 | panic t=>exact⟨d,k,f,i,g⟩
 | outgrown=>exact⟨d,k,f,i,g⟩
def QpH{c s}(h:A P base nt w0 c (λe d=>match e with | .goto _=>False|e=>Q e d) s):A P base nt w0 (.scope c) Q s:=by
 intro Z z m a w r b;refine wp_scope_straight (wp_mono (h Z z m a w r b) λe q o n=>?_);obtain⟨d,k,f,i,g⟩:=n;cases e with
 | goto l=>exact f.elim
 | normal=>exact⟨d,k,f,i,g⟩
 | exit j=>exact⟨d,k,f,i,g⟩
 | ret=>exact⟨d,k,f,i,g⟩
 | panic p=>exact⟨d,k,f,i,g⟩
 | outgrown=>exact⟨d,k,f,i,g⟩
def QpI{c k s}(h:QA P base nt w0 Q (.code c::.inScope::k) .normal s):QA P base nt w0 Q (.code (.scope c)::k) .normal s:=by simp only[QA]at h ⊢;refine QpH (h.mono λe b a=>?_);cases e<;>exact a
def za{a b k s}(h:QA P base nt w0 Q (.code a::.code b::k) .normal s):QA P base nt w0 Q (.code (.seq a b)::k) .normal s:=by simp only[QA]at h ⊢;refine QpF (h.mono λe d c=>?_);cases e<;>exact c
def QpJ{a c k s}(h:QA P base nt w0 Q (.code c::.inBlock a::k) .normal s):QA P base nt w0 Q (.code (.block a c)::k) .normal s:=by simp only[QA]at h ⊢;refine QpG (h.mono λe d b=>?_);cases e<;>exact b
def QpK{c x y k}{s:St}{t}(h:Qr s.fr c=.raw (.bool t))(g:t=true->QA P base nt w0 Q (.code x::k) .normal s)(f:t=false->QA P base nt w0 Q (.code y::k) .normal s):
  QA P base nt w0 Q (.code (.cond c x y)::k) .normal s:=by
 simp only[QA]at g f ⊢;intro Z z d a w r b;have e:=r.eval c;rw[h]at e;have:=JI e;cases t;exact wp_cond_false this (f rfl Z z d a w r b);exact wp_cond_true this (g rfl Z z d a w r b)
def SU{d}:∀{k b:List Item} {s:St},kv d k=some b->QA P base nt w0 Q b .normal s->QA P base nt w0 Q k (.exit d) s
 | [],b,s,h,_=>by simp[kv]at h
 | .code c::k,b,s,h,a=>by simp only[kv]at h;simp only[QA];exact SU h a
 | .ops c::k,b,s,h,a=>by simp only[kv]at h;simp only[QA];exact SU h a
 | .inScope::k,b,s,h,a=>by simp only[kv]at h;simp only[QA];exact SU h a
 | .inBlock j::k,b,s,h,a=>by
  simp only[kv]at h;simp only[QA];by_cases e:d=j;subst e;simp at h;subst h;rw[Qe rfl];exact a;have:Nat.beq d j=false:=by rw[<-Yx,Wz];exact e
  rw[this]at h;rw[Qd e];exact SU h a
def SV{b}:∀{k:List Item} {s:St},kv b k=none->Q (.exit b) s->QA P base nt w0 Q k (.exit b) s
 | [],s,_,a=>a
 | .code c::k,s,h,a=>by simp only[kv]at h;simp only[QA];exact SV h a
 | .ops c::k,s,h,a=>by simp only[kv]at h;simp only[QA];exact SV h a
 | .inScope::k,s,h,a=>by simp only[kv]at h;simp only[QA];exact SV h a
 | .inBlock j::k,s,h,a=>by
  simp only[kv]at h;simp only[QA];by_cases d:b=j;subst d;simp at h;have:Nat.beq b j=false:=by rw[<-Yx,Wz];exact d
  rw[this]at h;rw[Qd d];exact SV h a
def SW:∀{k:List Item} {s:St},Q .ret s->QA P base nt w0 Q k .ret s
 | [],_,a=>a
 | .code _::_,_,a=>by simp only[QA];exact SW a
 | .ops _::_,_,a=>by simp only[QA];exact SW a
 | .inBlock _::_,_,a=>by simp only[QA];exact SW a
 | .inScope::_,_,a=>by simp only[QA];exact SW a
def vE{t}(h:Zr nt (some t)=true):t<nt:=by simpa[Zr,xH] using h
def Rel.skip{s:St}{b}{a:Act}{w}(r:Rel Z base nt s b a w){t}(c:Zr nt t=true):Rel Z base nt ⟨Zi s.fr t (.raw Go.undef),s.h⟩ b (a.put t Go.undef) w:=by
 cases t with
 | none=>exact r
 | some t=>exact r.to (Tr.ext r.o λ_ _=>rfl) r.o (vE c) (.cl _ _ (.raw _))
def o9{o:Oper}{c}{s:St}{d}(h:WL P base nt o s d)(f:Zr nt o.dst=true)(i:AG P base nt w0 c Q ⟨Zi s.fr o.dst d,s.h⟩):AG P base nt w0 ((o,none)::c) Q s:=by
 intro Z z e a w r b;obtain⟨v,g,k⟩:=h Z e a w r;simp only[qA,XM,Vu];unfold Oper.wp;rw[k w λ_ _=>rfl];simp only[Oper.upon_value];refine i Z z e _ w ?_ b;cases j:o.dst with
 | none=>exact r
 | some t=>rw[j]at f;exact r.to (Tr.ext r.o λ_ _=>rfl) r.o (vE f) g
def eA(C:base<=w0.w.heap.size){o:Oper}{c}{s:St}{j d}(h:ko P base nt o s j d)(l:Zr nt o.dst=true)(m:AG P base nt w0 c Q ⟨Zi s.fr o.dst d,j⟩):AG P base nt w0 ((o,none)::c) Q s:=by
 intro Z z q a w r b;obtain⟨v,i,k,e,g,p,x,n,_⟩:=h Z q a w r (J5 C b.1.size);have f:∀u,u=v->Rel Z base nt ⟨Zi s.fr o.dst d,j⟩ k (a.put o.dst u) i:=by
  rintro u rfl;cases B:o.dst with
  | none=>exact r.AI g p u
  | some t=>rw[B]at l;exact r.to g p (vE l) x
 simp only[qA,XM,Vu];unfold Oper.wp;rcases e with e|⟨e,y⟩;rw[e];simp only[Oper.upon_value];exact m Z z k _ i (f v rfl) (b.step g n);rw[e];simp only[Oper.upon_skip];exact m Z z k _ i (f _ y.symm) (b.step g n)
def pc{a:Array Value}{t b}(h:a.getD t Go.undef=.bool b):OI a t=some b:=by
 unfold OI;rw[yw]at h;cases c:a[t]? with
 | none=>rw[c]at h;simp[Go.undef]at h
 | some v=>rw[c]at h;simp at h;rw[h]
def pe{a:Array Value}{t b}(h:a.getD t Go.undef=.tuple b):OI a t=none:=by
 unfold OI;rw[yw]at h;cases c:a[t]? with
 | none=>rfl
 | some v=>rw[c]at h;simp at h;rw[h]
def Rel.tell{s:St}{b}{a:Act}{w}(r:Rel Z base nt s b a w){t d}(c:QF Z s.h b w d (a.tmps.getD t Go.undef)):Rel Z base nt ⟨put s.fr t d,s.h⟩ b a w:=
 ⟨r.nt,r.defers,λu=>by rw[E9];by_cases h:u=t;subst h;rw[Qe rfl];exact c;rw[Qd h];exact r.fr u,r.o⟩
def QpL{o:Oper}{c}{s:St}{t b x}(k:get s.fr t=.raw (.bool x))(l:Zr nt o.dst=true\/x=b)
  (p:x=b->AG P base nt w0 ((o,none)::c) Q ⟨put s.fr t (.raw (.bool b)),s.h⟩) (n:x=(!b)->AG P base nt w0 c Q ⟨Zi (put s.fr t (.raw (.bool (!b)))) o.dst (.raw Go.undef),s.h⟩):AG P base nt w0 ((o,some (some t,b))::c) Q s:=by
 intro Z z e a w r h;have g:=r.fr t;rw[k]at g;have f:=JI g;have m:=pc f;simp only[qA,XM,m];by_cases d:x=b;have:=p d Z z e a w (r.tell (by rw[f,d];exact .cl _ _ (.raw _))) h;simp only[qA,XM,Vu]at this;rw[Qe (by simp[d])];exact this;have i:x=(!b):=by cases x<;>cases b<;>simp_all
 rw[Qd (by simp[d])];have j:Rel Z base nt ⟨put s.fr t (.raw (.bool (!b))),s.h⟩ e a w:=r.tell (by rw[f,i];exact .cl _ _ (.raw _));exact n i Z z e _ w (j.skip (l.resolve_right d)) h
def QdE{o:Oper}{c}{s:St}{g:Option Nat × Bool}(j:g.1=none\/∃t d,g.1=some t/\get s.fr t=.raw (.tuple d))(i:Zr nt o.dst=true)(h:AG P base nt w0 c Q ⟨Zi s.fr o.dst (.raw Go.undef),s.h⟩):AG P base nt w0 ((o,some g)::c) Q s:=by
 intro Z z f a w r l;obtain⟨k,b⟩:=g;have:XM (some (k,b)) a.tmps=false:=by rcases j with rfl|⟨t,d,rfl,hx⟩;rfl;have e:=r.fr t;rw[hx]at e;simp[XM,pe (JI e)]
 simp only[qA,this,qq,q5];exact h Z z f _ w (r.skip i) l
def vF{X}(j:q9 P X)(m:base<=w0.w.heap.size):∀(n:Nat) (k:List Item) (s:St),(exec X nt n k s).holds P base nt w0 Q->QA P base nt w0 Q k .normal s
 | 0,k,s,h=>by cases k<;>exact h
 | n+1,[],s,h=>h
 | n+1,.inBlock id::k,s,h=>by simp only[exec]at h;simp only[QA];exact vF j m n k s h
 | n+1,.inScope::k,s,h=>by simp only[exec]at h;simp only[QA];exact vF j m n k s h
 | n+1,.code c::k,s,h=>by
  cases c with
  | skip=>simp only[exec]at h;have:=vF j m n k s h;simp only[QA];exact λZ z q a w r b=>wp_skip ⟨s,q,this,r,b⟩
  | label l=>simp only[exec]at h;have:=vF j m n k s h;simp only[QA];exact λZ z q a w r b=>wp_label ⟨s,q,this,r,b⟩
  | seq x y=>simp only[exec]at h;exact za (vF j m n _ s h)
  | block id c=>simp only[exec]at h;exact QpJ (vF j m n _ s h)
  | cond c x y=>simp only[exec]at h;split at h;rename_i b J;exact QpK J (λe=>vF j m n _ s (h.1 e)) (λe=>vF j m n _ s (h.2 e));exact h.elim
  | exit id=>simp only[exec]at h;simp only[QA];split at h;rename_i H C;have:=SU C (vF j m n H s h);exact λZ z q a w r b=>wp_exit ⟨s,q,this,r,b⟩;rename_i C;have:=SV (P:=P) (base:=base) (nt:=nt) (w0:=w0) C h;exact λZ z q a w r b=>wp_exit ⟨s,q,this,r,b⟩
  | ret=>simp only[exec]at h;simp only[QA];exact λZ z q a w r b=>wp_ret ⟨s,q,SW h,r,b⟩
  | region id M L=>simp only[exec]at h;cases L;have:=vF j m n _ s h;simp only[QA]at this ⊢;exact λZ z q a w r b=>QpE (this Z z q a w r b);exact h
  | loop c=>exact h
  | rangeFunc f O a b=>exact h
  | scope b=>simp only[exec]at h;exact QpI (vF j m n _ s h)
  | goto l=>exact h
  | refuse w=>exact h
 | n+1,.ops []::k,s,h=>by simp only[exec]at h;simp only[QA];have:=vF j m n k s h;exact λZ z q a w r b=>⟨s,q,this,r,b⟩
 | n+1,.ops ((o,g)::r)::k,s,h=>by
  have u:∀v,Zr nt o.dst=true\/True->(exec X nt n (.ops r::k) v).holds P base nt w0 Q->AG P base nt w0 r (QA P base nt w0 Q k) v:=λv _ I=>by have:=vF j m n (.ops r::k) v I;simpa only[QA] using this
  cases g with
  | none=>simp only[exec]at h;simp only[QA];split at h;rename_i p d B;cases i:Zr nt o.dst;rw[i]at h;exact h.elim;rw[i]at h;exact o9 (QdB j B h.1) i (u _ (.inl i) h.2);split at h;rename_i p R d B;cases i:Zr nt o.dst;rw[i]at h;exact h.elim;rw[i]at h;exact eA m (QdC j B h.1) i (u _ (.inl i) h.2);simpa only[Tree.holds,QA] using h
  | some g=>
   obtain⟨K,b⟩:=g;cases K with
   | none=>simp only[exec]at h;simp only[QA];cases i:Zr nt o.dst;rw[i]at h;exact h.elim;rw[i]at h;exact QdE (.inl rfl) i (u _ (.inl i) h)
   | some t=>simp only[exec]at h;simp only[QA];split at h;rename_i x hx;simp only[Tree.holds,QdD,qZ,kh,ne_eq]at h;have E:=λe=>vF j m n _ _ (h.1 e);simp only[QA]at E;refine QpL hx ?_ E λe=>?_;by_cases F:x=b;exact .inr F;have:=h.2 F;cases i:Zr nt o.dst;rw[i]at this;exact this.elim;exact .inl rfl;have:=h.2 (by rw[e];cases b<;>simp);cases i:Zr nt o.dst;rw[i]at this;exact this.elim;rw[i]at this;exact u _ (.inl i) this;rename_i N hx;cases i:Zr nt o.dst;rw[i]at h;exact h.elim;rw[i]at h;exact QdE (.inr ⟨t,_,rfl,hx⟩) i (u _ (.inl i) h);exact h.elim
end
variable {Z:Nat->Prop}
mutual
def D.shift(k:Nat):D->D
 | .ref l g b c=>.ref (k+l) g b c
 | .ptr l g i j=>.ptr (k+l) g i j
 | .mref l g=>.mref (k+l) g
 | .clo f e a=>.clo f e (yK k a)
 | .agg a=>.agg (yK k a)
 | .tup a=>.tup (yK k a)
 | d=>d
def yK(k:Nat):List D->List D
 | []=>[]
 | c::a=>c.shift k::yK k a
end
def Ob.shift(k:Nat)(o:Ob):Ob:={ o with row:=λi=>yK k (o.row i) }
def xO(k):∀a:List D,(yK k a).length=a.length
 | []=>rfl
 | _::a=>by simp[yK,xO k a]
def Hs(k):∀(a:List D) (i:Nat),i<a.length->nth (yK k a) i=(nth a i).shift k
 | [],i,h=>by simp at h
 | c::a,0,_=>by simp[yK,nth]
 | c::a,i+1,h=>by have:=Hs k a i (zC h);simpa[yK,nth] using this
def QF.join{M}{h h':List Ob}{B t:List Pl}{w}(m:B.length=h.length)(S:∀b,free M t b->free Z (B++t) b){d v}(r:QF M h' t w d v):
  QF Z (h++h'.map (Ob.shift h.length)) (B++t) w (d.shift h.length) v:=by
 have K:∀(l:Nat) (o:Ob),h'[l]?=some o->(h++h'.map (Ob.shift h.length))[h.length+l]?=some (o.shift h.length):=λl o e=>by rw[Ks ω];simp[e]
 have L:∀(l:Nat) (p:Pl),t[l]?=some p->(B++t)[h.length+l]?=some p:=λl p e=>by rw[Ks ω,m];simp[e]
 have V:∀(d:D) (v:Value),Cl (free M t) w d v->QF Z (h++h'.map (Ob.shift h.length)) (B++t) w (d.shift h.length) v:=by
  intro d v u;have Q:=u.mono (N':=free Z (B++t)) (w':=w) (λb T _=>⟨S b T,rfl⟩);clear u;induction Q with
  | raw v=>exact .cl _ _ (.raw v)
  | undef v=>exact .cl _ _ (.undef v)
  | nil a=>exact .cl _ _ (.nil a)
  | imm R n N a y b o k U m x u s q=>exact .cl _ _ (.imm R n N a y b o k U m x u s)
  | ip z b o k u s q=>exact .cl _ _ (.ip z b o k u s)
  | clo f J I k m s q=>exact .clo f J _ k (by rw[xO];exact m) (λi c=>by rw[xO]at c;rw[Hs _ _ _ c];exact q i c)
  | agg I k m s q=>exact .agg _ k (by rw[xO];exact m) (λi c=>by rw[xO]at c;rw[Hs _ _ _ c];exact q i c)
  | tup I k m s q=>exact .tup _ k (by rw[xO];exact m) (λi c=>by rw[xO]at c;rw[Hs _ _ _ c];exact q i c)
 induction r with
 | cl d v u=>exact V d v u
 | ref l g O P o p a y E C F H x=>exact .ref _ g O P _ p a y (K l o E) (L l p C) F H x
 | ptr l g i j o p a E C F H x=>exact .ptr _ g i j _ p a (K l o E) (L l p C) F H x
 | mref l g o p b E C F H x=>exact .mref _ g _ p b (K l o E) (L l p C) F H x
 | clo f J I k m s q=>exact .clo f J _ k (by rw[xO];exact m) (λi c=>by rw[xO]at c;rw[Hs _ _ _ c];exact q i c)
 | agg I k m s q=>exact .agg _ k (by rw[xO];exact m) (λi c=>by rw[xO]at c;rw[Hs _ _ _ c];exact q i c)
 | tup I k m s q=>exact .tup _ k (by rw[xO];exact m) (λi c=>by rw[xO]at c;rw[Hs _ _ _ c];exact q i c)
def Tr.join{a h h'}{d k:List Pl}{w i:World}(R:Zo Z a h d w)(j:Below w.heap.size w i)(s:∀(l b q:Nat),k[l]?=some (some (b,q))->w.heap.size<=b):
  Tr h d w (h++h') (d++k) i where
 Kz:=λb r Qb=>by refine⟨λl q e=>?_,j.block b Qb⟩;by_cases n:l<d.length;rw[JX n]at e;exact r l q e;rw[Ks ω]at e;have:=s _ _ _ e;omega
 obj:=λl o p g f=>⟨o,p,by rw[JX (KL g)];exact g,by rw[JX (WA f)];exact f,Qv _,rfl,λ_=>⟨rfl,rfl⟩⟩
 shape:=λl o t b q g v u f c el m=>⟨c,by rw[j.block b (R.lt f).1];exact m,rfl⟩
def Zo.join{C d h h' k m}{w s:World}(R:Zo Z d h k w)(K:d<=w.heap.size)(y:Below w.heap.size w s)(p:Zo C w.heap.size h' m s)
  (H:∀b,free C m b->free Z (k++m) b) (r:∀(l b q:Nat),m[l]?=some (some (b,q))->w.heap.size<=b):Zo Z d (h++h'.map (Ob.shift h.length)) (k++m) s:=by
 have T:=Tr.join (h':=h'.map (Ob.shift h.length)) R y r;refine⟨by simp[R.len,p.len],?_,?_,?_⟩;intro l E b q I g f;by_cases e:l<k.length<;>by_cases z:E<k.length;rw[JX e]at g;rw[JX z]at f;exact R.inj _ _ _ _ _ g f;rw[JX e]at g;rw[Ks ω]at f;have:=(R.lt g).1;have:=r _ _ _ f;omega;rw[Ks ω]at g;rw[JX z]at f;have:=(R.lt f).1;have:=r _ _ _ g;omega;rw[Ks ω]at g f;have:=p.inj _ _ _ _ _ g f;omega;intro l o c a;by_cases e:l<h.length;rw[JX e]at c;rw[JX (by rw[R.len];exact e)]at a;exact R.V7 l o c a;rw[Ks ω]at c;rw[Ks (by rw[R.len];omega),R.len]at a;simp only[KR,WK]at c;obtain⟨n,u,rfl⟩:=c;exact p.V7 _ n u a;intro l o b q c a;by_cases e:l<h.length;rw[JX e]at c;rw[JX (by rw[R.len];exact e)]at a;obtain⟨B,x⟩:=R.at_ l o b q c a;exact⟨B,x.to rfl rfl rfl (y.block b (R.lt a).1) (λ_ _=>rfl) λi j v _ _ t=>t.tr T⟩;rw[Ks ω]at c;rw[Ks (by rw[R.len];omega),R.len]at a;simp only[KR,WK]at c;obtain⟨n,u,rfl⟩:=c;obtain⟨B,x⟩:=p.at_ _ n b q u a;refine⟨λ_=>by have:=r _ _ _ a;omega,x.to rfl rfl rfl rfl (λi _=>xO _ _) λi j v J F t=>?_⟩;show QF Z _ _ _ (nth (yK _ (n.row i)) j) v;rw[Hs _ _ _ F];exact t.join R.len H
def QO(P:Program)(f:FuncId)(F:List Ob)(c:List D)(R:D->List Ob->Prop):Prop:=
 ∀(Z:Nat->Prop) (a:Nat) (w:World) (k:List Pl) (j:List Value),a<=w.heap.size->(∀b,w.heap.size<=b->Z b)->Zo Z a F k w ->
  j.length=c.length->(∀i,i<c.length->QF Z F k w (nth c i) (Q8 j i)) ->
  Calls P f j.toArray w λe g=>∃v d h l,e=.returned v/\R d h/\Zo Z a h l g/\QF Z h l g d v/\Tr F k w h l g/\Below a w g
def QO.mono{P f F a R c}(h:QO P f F a R)(l:∀d h,R d h->c d h):QO P f F a c:=λZ b w g e r q p o n=>(h Z b w g e r q p o n).mono λ_ _ ⟨v,d,m,s,k,j,i⟩=>⟨v,d,m,s,k,l _ _ j,i⟩
def QM(P:Program)(f:FuncId)(a:List D)(R:D->List Ob->Prop):Prop:=QO P f [] a R
def QM.mono{P f a R b}(h:QM P f a R)(c:∀d h,R d h->b d h):QM P f a b:=QO.mono h c
def kx:List D->Nat->List (Nat × D)
 | [],_=>[]
 | d::r,i=>(i,d)::kx r (i+1)
def QdF:∀(a:List D) (i t:Nat),get (kx a i) t=if i<=t then nth a (t-i) else .undef
 | [],i,t=>by simp[kx,get,nth]
 | d::r,i,t=>by
  simp only[kx,get];by_cases h:i=t;subst h;simp[nth];have:Nat.beq i t=false:=by rw[<-Yx,Wz];exact h
  rw[this];simp only[ju];rw[QdF r (i+1) t];by_cases b:i+1<=t;rw[Qe b,Qe ω];obtain⟨m,rfl⟩:∃m,t=i+(m+1):=⟨t-i-1,ω⟩;rw[show i+(m+1)-(i+1)=m by omega,show i+(m+1)-i=m+1 by omega];simp[nth];rw[Qd b,Qd ω]
def Fm(L:Jt)(s:St):List ResultVar->Option (Prop × List D)
 | []=>some (True,[])
 | .tmp t::r=>match Fm L s r with
  | some (p,b)=>some (p,get s.fr t::b)
  | none=>none
 | .cell a ty::r=>match Lz L s.h ty (get s.fr a),Fm L s r with
  | some (q,d),some (p,b)=>some (q/\p,d::b)
  | _,_=>none
def one:List D->D
 | [d]=>d
 | a=>.tup a
def AW(L:Jt)(a:List ResultVar)(R:D->List Ob->Prop):Exit->St->Prop
 | .normal,s | .ret,s=>match Fm L s a with
  | some (p,b)=>p/\R (one b) s.h
  | none=>False
 | _,_=>False
def OK(a:Array Value):ResultVar->Sem Value
 | .tmp t=>pure (a.getD t Go.undef)
 | .cell x t=>do loadVar t (<-asAddr (a.getD x Go.undef))
def pf(c:Func)(a):results c a=(do let b <-c.results.mapM (OK a);pure (if h:b.size=1 then b[0] else .tuple b)):=by unfold results;congr 2
def pg{P L}(C:Jm P L){c J s y a w}(r:Rel Z c J s y a w):∀(g:List ResultVar) (p:Prop) (f:List D),Fm L s g=some (p,f)->p ->
  ∃e:List Value,e.length=f.length/\(∀i,i<f.length->QF Z s.h y w (nth f i) (Q8 e i)) /\
   (g.mapM (OK a.tmps)).run P w=.ok e w
 | [],p,f,h,_=>by simp[Fm]at h;obtain⟨_,rfl⟩:=h;exact⟨[],rfl,λi l=>by simp at l,σ⟩
 | .tmp t::g,p,f,h,m=>by
  simp only[Fm]at h;split at h;rename_i q I z;simp only[Q7,Zg]at h;obtain⟨rfl,rfl⟩:=h;obtain⟨e,H,F,E⟩:=pg C r g _ _ z m;refine⟨a.tmps.getD t Go.undef::e,by simp[H],λi l=>?_,by simp[List.mapM_cons,OK,E]⟩;cases i with
  | zero=>exact r.fr t
  | succ i=>have:=F i (zC l);simpa[nth,Q8] using this
  cases h
 | .cell x t::g,p,f,h,m=>by
  simp only[Fm]at h;split at h;rename_i q d S I j z;simp only[Q7,Zg]at h;obtain⟨rfl,rfl⟩:=h;obtain⟨e,H,F,E⟩:=pg C r g _ _ z m.2;have Q := QcQ (P := P) (base := c) (nt := J) (s := s) (o := ⟨none, .load t (.tmp x), 0, "", #[], none⟩) C (t := t) (x := .tmp x) rfl j m.1;obtain⟨v,k,b⟩:=Q Z y a w r;have b:=b w (λ_ _=>rfl);refine⟨v::e,by simp[H],λi l=>?_,?_⟩;cases i with
  | zero=>exact k
  | succ i=>have:=F i (zC l);simpa[nth,Q8] using this
  have hx:=r.fr x;have R:(OK a.tmps (.cell x t)).run P w=.ok v w:=by
   simp only[execOp,Act.eval,Instr.loadAt,Sem.run_bind]at b;simp only[OK];have O:∃n,a.tmps.getD x Go.undef=.pointer (some n):=by unfold Lz at j;split at j;cases j;split at j;rename_i B;rw[B]at hx;obtain⟨_,_,n,k,_⟩:=Fc hx;exact⟨_,k⟩;rename_i B;rw[B]at hx;obtain⟨_,_,_,k,_⟩:=Lx hx;exact⟨_,k⟩;cases j
   obtain⟨n,K⟩:=O;rw[K]at b ⊢;simp only[Instr.sureAddr,asAddr,Sem.run_bind,Sem.run_pure,Result.andThen_ok]at b ⊢;generalize (loadVar t n).run P w=N at *;cases N with
   | ok u M=>simp only[Result.andThen_ok]at b;cases b;rfl
   | halt x M=>simp only[Result.andThen_halt]at b;cases b
  simp[List.mapM_cons,R,E];cases h
def QpN{P:Program}{L}(U:Jm P L){f}{j:Func}{c}(O:P.funcs[f]?=some j)(S:j.body=some c){F}{b:List D}{R}(hn:b.length<=j.ntmps)
  (h:∀(a:Nat) (w:World) (n:List Pl),a<=w.heap.size->n.length=F.length->A P a j.ntmps ⟨w,F,n⟩ c (AW L j.results.toList R) ⟨kx b 0,F⟩):QO P f F b R:=by
 intro Z a w n o Y T H hl Q;refine calls_of_wp O S ?_;have W:Rel Z a j.ntmps ⟨kx b 0,F⟩ n { tmps:=o.toArray++Array.replicate (j.ntmps-o.toArray.size) Go.undef,defers:=[] } w:=by
  refine⟨ξ,rfl,λt=>?_,H⟩;rw[QdF];simp only[Z7,Vu,Dn];by_cases K:t<b.length;have:=Q t K;have e:(o.toArray++Array.replicate (j.ntmps-o.toArray.size) Go.undef).getD t Go.undef=Q8 o t:=by rw[yw,N8 ξ];simp[Q8,QU]
  rw[e];exact this;have:nth b t=.undef:=by simp[nth,QU,EW (Ll K)]
  rw[this];exact .cl _ _ (.undef _)
 refine wp_mono (h a w n Y H.len _ trivial n _ w W ⟨Below.refl _ _,Tr.refl _ _ _,LO.start (w0:=⟨w,F,n⟩) H T⟩) λe I m N=>?_;obtain⟨x,r,s,y,J,E,_⟩:=N;have z:(match Fm L x j.results.toList with|some (p,B)=>p/\R (one B) x.h|none=>False)->I.defers=[]/\∃v,(results j I.tmps).run P m=.ok v m /\
   ∃v1 d h r,Ending.returned v=.returned v1/\R d h/\Zo Z a h r m/\QF Z h r m d v1/\Tr F n w h r m/\Below a w m:=by
  intro k;split at k;rename_i p B B2;obtain⟨C,g,u,V⟩:=pg U y _ _ _ B2 k.1;have q:(j.results.mapM (OK I.tmps)).run P m=.ok C.toArray m:=by rw[Array.mapM_eq_mapM_toList];simp only[Sem.run_map,V,Result.andThen_ok]
  refine⟨y.defers,?_⟩;have JO:C.toArray.size=C.length:=σ;match B,C,g,u,q,k with
  | [d],[v],_,u,q,k=>refine⟨v,?_,v,d,x.h,r,rfl,k.2,y.o,u 0 σ,E,J⟩;rw[pf];simp only[Sem.run_bind];rw[q];simp
  | [],[],_,u,q,k=>refine⟨.tuple #[],?_,_,_,x.h,r,rfl,k.2,y.o,.tup [] [] rfl (λi M=>by simp at M),E,J⟩;rw[pf];simp only[Sem.run_bind];rw[q];simp
  | d::d2::B,v::v2::o,g,u,q,k=>refine⟨.tuple (v::v2::o).toArray,?_,_,_,x.h,r,rfl,k.2,y.o,.tup _ _ g u,E,J⟩;rw[pf];simp only[Sem.run_bind];rw[q];simp
  | [],_::_,g,_,_,_=>simp at g
  | [_],[],g,_,_,_=>simp at g
  | [_],_::_::_,g,_,_,_=>simp at g
  | _::_::_,[],g,_,_,_=>simp at g
  | _::_::_,[_],g,_,_,_=>simp at g
  exact k.elim
 cases e with
 | normal=>exact z s
 | ret=>exact z s
 | exit id=>exact s.elim
 | goto l=>exact s.elim
 | panic ch=>exact s.elim
 | outgrown=>exact s.elim
end Go.Fg
namespace Go.Fg
open Go.RowKit (Below)
variable {Z:Nat->Prop}
def D.Yl:D->Bool
 | .raw _ | .nil | .imm _ _ _ | .ip _=>true
 | _=>false
def Ht{h a w}{d:D}{v}(r:QF Z h a w d v)(b:d.Yl=true):Cl (free Z a) w d v:=by
 cases r with
 | cl _ _ c=>exact c
 | _=>cases b
def YU(f:D->Option (Prop × D)):List D->Option (Prop × List D)
 | []=>some (True,[])
 | d::r=>match f d,YU f r with
  | some (p,c),some (q,a)=>some (p/\q,c::a)
  | _,_=>none
def Wq(h:List Ob):Nat->D->Option (Prop × D)
 | 0,.raw v=>some (True,.raw v)
 | 0,_=>none
 | n+1,d=>match d with
  | .raw v=>some (True,.raw v)
  | .nil=>some (True,.nil)
  | .imm z n r=>some (True,.imm z n r)
  | .ip c=>some (True,.ip c)
  | .ref l g a b=>match h[l]? with
   | some o=>some (g=o.gen/\a+b<=o.n/\∀i,i<b->(o.row (a+i)).all D.Yl=true,.imm o.sz b λi=>o.row (a+i))
   | none=>none
  | .ptr l g i j=>match h[l]? with
   | some o=>match YU (Wq h n) ((o.row i).drop j) with
    | some (p,k)=>some (g=o.gen/\i<o.n/\j<=o.sz/\p,.ip k)
    | none=>none
   | none=>none
  | .agg k=>match YU (Wq h n) k with
   | some (p,e)=>some (p,.agg e)
   | none=>none
  | .clo f m k=>match YU (Wq h n) k with
   | some (p,e)=>some (p,.clo f m e)
   | none=>none
  | _=>none
def SX{f:D->Option (Prop × D)}{C:D->Value->Prop}{r:D->Value->Prop}(n:∀d v p c,r d v->f d=some (p,c)->p->C c v):∀(b:List D) (e:List Value) (p:Prop) (a:List D),e.length=b.length->(∀i,i<b.length->r (nth b i) (Q8 e i)) ->
  YU f b=some (p,a)->p->a.length=b.length/\∀i,i<b.length->C (nth a i) (Q8 e i)
 | [],e,p,a,l,j,h,k=>by simp[YU]at h;obtain⟨_,rfl⟩:=h;exact⟨rfl,λi g=>by simp at g⟩
 | d::b,[],p,a,l,j,h,k=>by simp at l
 | d::b,v::e,p,a,l,j,h,k=>by
  simp only[YU]at h;split at h;rename_i o c q m w u;simp only[Q7,Zg]at h;obtain⟨rfl,rfl⟩:=h;obtain⟨t,s⟩:=SX n b e q m (zC l) (λi g=>by have:=j (i+1) (zC g);simpa[nth,Q8] using this) u k.2;refine⟨by simp[t],λi g=>?_⟩;cases i with
  | zero=>exact n d v o c (j 0 σ) w k.1
  | succ i=>have:=s i (zC g);simpa[nth,Q8] using this
  cases h
def eC{N a0 h}{F:List Pl}{w}(R:Zo Z a0 h F w)(eD:∀b,free Z F b->N b)(V:∀l b q:Nat,F[l]?=some (some (b,q))->N b):∀(n:Nat) (d:D) (v:Value) (p:Prop) (c:D),QF Z h F w d v->Wq h n d=some (p,c)->p->Cl N w c v
 | 0,d,v,p,c,r,e,x=>by cases d<;>simp only[Wq,reduceCtorEq,Q7,Zg]at e;obtain⟨_,rfl⟩:=e;rw[JI r];exact .raw _
 | n+1,d,v,p,c,r,e,x=>by
  have y:∀{d:D} {v:Value},Cl (free Z F) w d v->Cl N w d v:=λh=>h.mono λb hb _=>⟨eD b hb,rfl⟩;cases d with
  | raw u=>simp only[Wq,Q7,Zg]at e;obtain⟨_,rfl⟩:=e;exact y (Ht r rfl)
  | nil=>simp only[Wq,Q7,Zg]at e;obtain⟨_,rfl⟩:=e;exact y (Ht r rfl)
  | imm z k a1=>simp only[Wq,Q7,Zg]at e;obtain⟨_,rfl⟩:=e;exact y (Ht r rfl)
  | ip J=>simp only[Wq,Q7,Zg]at e;obtain⟨_,rfl⟩:=e;exact y (Ht r rfl)
  | undef=>simp[Wq]at e
  | tup J=>simp[Wq]at e
  | ref l g B K=>
   simp only[Wq]at e;split at e;rename_i o P;simp only[Q7,Zg]at e;obtain⟨rfl,rfl⟩:=e;obtain⟨hg,hn,JR⟩:=x;obtain⟨a,a2,t,S⟩:=oB R r (p:=g=o.gen/\B+K<=o.n) (n:=K) (sz:=o.sz) (rows:=λk=>o.row (B+k)) (by simp[SJ,P]) ⟨hg,hn⟩;have Dw:∀i j,i<K->j<o.sz->(nth (o.row (B+i)) j).Yl=true:=λi j m I=>by
    have h1:=JR i m;rw[jt]at h1;have h2:j<(o.row (B+i)).length:=by rw[S.len i m];exact I
    refine h1 _ ?_;simp only[nth,QU,QH h2,Va];exact XK h2
   obtain⟨o',p',ad,wH,hv,U,Jd,ZO,vp,KS⟩:=Fb r;rw[P]at U;cases U;have OL:=S.v;rw[hv]at OL;simp only[Value.slice.injEq,yz]at OL;obtain⟨rfl,rfl⟩:=OL;rw[hv];rcases KS hg with ⟨h1,h2⟩|⟨b,q,c,el,Wh,wG,hb,hc,Q⟩;subst h1;exact .imm _ _ _ _ _ 0 0 (λ_ _=>Go.undef) (λh=>ω) ω (λi m=>ω) (λi j m=>ω) (λi j m=>ω);refine .imm _ _ _ _ _ b (q+B*o.sz) t (λ_=>wG) Q S.len (λi j m I=>⟨V l b q (by rw[Jd,Wh]),?_⟩) (λi j m I=>?_);obtain⟨b1,q1,hh,Dz⟩:=S.cell i j m I;rw[wG]at hh;simp only[Q7,Addr.mk.injEq,and_true]at hh;obtain⟨rfl,rfl⟩:=hh;exact Dz;exact y (Ht (S.rel i j m I) (Dw i j m I));cases e
  | mref l g=>simp[Wq]at e
  | ptr l g i j=>
   simp only[Wq]at e;split at e;rename_i o P;split at e;rename_i q J W;simp only[Q7,Zg]at e;obtain⟨rfl,rfl⟩:=e;obtain⟨hg,m,I,hq⟩:=x;obtain⟨o',p',ad,hv,U,Jd,ZO,vp,KS⟩:=Fc r;rw[P]at U;cases U;obtain⟨b,M,rfl,rfl⟩:=KS hg;obtain⟨Q6,xx⟩:=R.at_ l o b M P Jd;obtain⟨c,el,hb,LB,Kf,Z3⟩:=xx.cells ZO;have E:((o.row i).drop j).length=o.sz-j:=by rw[bX,Kf i m]
   let t:List Value:=(List.range (o.sz-j)).map λk=>(c[M+(i*o.sz+(j+k))]?).getD Go.undef;have Y:∀k,k<o.sz-j->Q8 t k=(c[M+(i*o.sz+(j+k))]?).getD Go.undef:=λk H=>by simp[t,Q8,QU,H]
   obtain⟨k1,O⟩:=SX (r:=λd v=>QF Z h F w d v) (C:=λd v=>Cl N w d v) (λd v p c s T x=>eC R eD V n d v p c s T x) _ t q J (by simp[t,E]) (λk H=>by rw[E]at H;obtain⟨u,hu,s⟩:=Z3 i (j+k) m ω;rw[G6,Y k H,hu];exact s) W hq
   rw[hv];rw[E]at k1 O;refine .ip _ b _ (λk=>Q8 t k) (λk H=>⟨V l b M Jd,?_⟩) (λk H=>O k ω);rw[k1]at H;obtain⟨u,hu,s⟩:=Z3 i (j+k) m ω;rw[cell_of_row w b _ c el (0,0) hb,Y k H,hu,Va,show M+(i*o.sz+j)+k=M+(i*o.sz+(j+k)) by omega,hu];cases e;cases e
  | agg J=>simp only[Wq]at e;split at e;rename_i q L W;simp only[Q7,Zg]at e;obtain⟨rfl,rfl⟩:=e;obtain⟨t,rfl,Q,s⟩:=Lw r;obtain⟨k1,O⟩:=SX (r:=λd v=>QF Z h F w d v) (C:=λd v=>Cl N w d v) (λd v p c s T x=>eC R eD V n d v p c s T x) J t _ L Q s W x;exact .agg _ _ ω (λi m=>O i ω);cases e
  | clo f nf J=>simp only[Wq]at e;split at e;rename_i q L W;simp only[Q7,Zg]at e;obtain⟨rfl,rfl⟩:=e;obtain⟨t,rfl,Q,s⟩:=oa r;obtain⟨k1,O⟩:=SX (r:=λd v=>QF Z h F w d v) (C:=λd v=>Cl N w d v) (λd v p c s T x=>eC R eD V n d v p c s T x) J t _ L Q s W x;exact .clo _ _ _ _ ω (λi m=>O i ω);cases e
def QpP{a h b w}(R:Zo Z a h b w)(n d v)(p:Prop)(c)(r:QF Z h b w d v)(e:Wq h n d=some (p,c))(f:p):Cl (λ_=>True) w c v:=
 eC R (λ_ _=>trivial) (λ_ _ _ _=>trivial) n d v p c r e f
mutual
def D.flat:D->Bool
 | .raw _ | .nil | .ref _ _ _ _ | .ptr _ _ _ _ | .mref _ _=>true
 | .agg a=>Fo a
 | .tup a=>Fo a
 | .clo _ _ a=>Fo a
 | _=>false
def Fo:List D->Bool
 | []=>true
 | d::r=>d.flat&&Fo r
end
def Hu:∀{b:List D},Fo b=true->∀i,i<b.length->(nth b i).flat=true
 | [],_,i,h=>by simp at h
 | d::r,a,i,h=>by
  simp only[Fo,ZM]at a;cases i with
  | zero=>exact a.1
  | succ i=>have:=Hu a.2 i (zC h);simpa[nth] using this
def QF.eE{Z' h B w}{d:D}{v}(r:QF Z h B w d v)(e:d.flat=true):QF Z' h B w d v:=by
 induction r with
 | cl d v E=>
  have:∀{d:D} {v:Value},Cl (free Z B) w d v->d.flat=true->QF Z' h B w d v:=by
   intro d v E;induction E with
   | raw v=>exact λ_=>.cl _ _ (.raw v)
   | undef v=>intro e;simp[D.flat]at e
   | nil a=>exact λ_=>.cl _ _ (.nil a)
   | imm=>intro e;simp[D.flat]at e
   | ip=>intro e;simp[D.flat]at e
   | clo f C q k n t m=>exact λe=>.clo f C q k n λi c=>m i c (Hu (by simpa[D.flat] using e) i c)
   | agg q k n t m=>exact λe=>.agg q k n λi c=>m i c (Hu (by simpa[D.flat] using e) i c)
   | tup q k n t m=>exact λe=>.tup q k n λi c=>m i c (Hu (by simpa[D.flat] using e) i c)
  exact this E e
 | ref l g F H o p a I x u y z s=>exact .ref l g F H o p a I x u y z s
 | ptr l g i j o p a x u y z s=>exact .ptr l g i j o p a x u y z s
 | mref l g o p b x u y z s=>exact .mref l g o p b x u y z s
 | clo f C q k n t m=>exact .clo f C q k n λi c=>m i c (Hu (by simpa[D.flat] using e) i c)
 | agg q k n t m=>exact .agg q k n λi c=>m i c (Hu (by simpa[D.flat] using e) i c)
 | tup q k n t m=>exact .tup q k n λi c=>m i c (Hu (by simpa[D.flat] using e) i c)
def Ob.flat(o:Ob):Prop:=∀i,i<o.n->Fo (o.row i)=true
def Zo.eE{Z' a h c w}(R:Zo Z a h c w)(m:∀o∈h,o.flat):Zo Z' a h c w where
 len:=R.len
 inj:=R.inj
 V7:=R.V7
 at_:=λl o b q d f=>by obtain⟨n,x⟩:=R.at_ l o b q d f;exact⟨n,x.to rfl rfl rfl rfl (λ_ _=>rfl) λi j v k g e=>e.eE (Hu (m o (Oh d) i k) j g)⟩
def Qm(P:Program)(f:FuncId):Prop:=∀(a:Array Value) (w:World),(callFunc f a).run P w=.ok (.enter f a) w
def JP:D->Option (FuncId × Nat × List D)
 | .raw (.func (.func f) ⟨[]⟩ ⟨[]⟩)=>some (f,0,[])
 | .clo f a b=>some (f,a,b)
 | _=>none
section
variable {P:Program}{base nt:Nat}{w0:Start}{Q:Exit->St->Prop}
def SZ{h g w d v f c b}(r:QF Z h g w d v)(e:JP d=some (f,c,b)):
  ∃a:List Value,v=.func (.func f) (a.take c).toArray (a.drop c).toArray/\a.length=b.length/\∀i,i<b.length->QF Z h g w (nth b i) (Q8 a i):=by
 unfold JP at e;split at e;simp only[Q7,Zg]at e;obtain⟨rfl,rfl,rfl⟩:=e;exact⟨[],JI r,rfl,λi j=>by simp at j⟩;simp only[Q7,Zg]at e;obtain⟨rfl,rfl,rfl⟩:=e;exact oa r;cases e
def Jh{b:Type}(c:Nat)(d a:List b):List b:=d.take c++(a++d.drop c)
def S3{r:D->Value->Prop}{nf:Nat}{a args:List D}{b us:List Value}(f:b.length=a.length)(e:∀i,i<a.length->r (nth a i) (Q8 b i))(d:us.length=args.length)(g:∀i,i<args.length->r (nth args i) (Q8 us i)):
  (Jh nf b us).length=(Jh nf a args).length/\∀i,i<(Jh nf a args).length->r (nth (Jh nf a args) i) (Q8 (Jh nf b us) i):=by
 refine⟨by simp[Jh,f,d],λi j=>?_⟩;have h:(b.take nf).length=(a.take nf).length:=by simp[f]
 simp only[Jh,nth,Q8,QU];by_cases c:i<(a.take nf).length;rw[JX (l₁:=a.take nf) c,JX (l₁:=b.take nf) ω];have c2:i<nf/\i<a.length:=by simp at c;omega
 rw[XJ,XJ,Qe c2.1,Qe c2.1];exact e i c2.2;rw[Ks (l₁:=a.take nf) ω,Ks (l₁:=b.take nf) ω,h];by_cases c2:i-(a.take nf).length<args.length;rw[JX (l₁:=args) c2,JX (l₁:=us) ω];exact g _ c2;rw[Ks (l₁:=args) ω,Ks (l₁:=us) ω,d];rw[GX,GX];refine e _ ?_;simp only[Jh,Zn,Og,bX]at j c c2 ⊢;omega
def S4{o:Oper}{a:Act}{x b}{j:Array TypeId}{f}{d:Nat}{c:List Value}(i:Qm P f)(h:o.op=.call ⟨.value x,b,j⟩)(g:a.eval x=.func (.func f) (c.take d).toArray (c.drop d).toArray)(w):
  (execOp a.eval o).run P w=.ok (.enter f (Jh d c (b.toList.map a.eval)).toArray) w:=by
 have e:(Jh d c (b.toList.map a.eval)).toArray=(c.take d).toArray++b.map a.eval++(c.drop d).toArray:=by apply Array.ext';simp[Jh]
 rw[e];simp[execOp,h,resolve,g,Deferred.ofValue,invoke,i _ w]
def QdH(Q6:base<=w0.w.heap.size){o:Oper}{s x g}{Zu:Array TypeId}{f u V}(hf:Qm P f)(ho:o.op=.call ⟨.value x,g,Zu⟩)
  (hx:JP (Qr s.fr x)=some (f,u,V)) {n:Nat} {p:Prop} {H:List D} (JV:YU (Wq s.h n) (Jh u V (g.toList.map (Qr s.fr)))=some (p,H)) (B:p) {R:D->List Ob->Prop} (hF:QM P f H R)
  (LP:∀d h,R d h->d.flat=true/\∀o∈h,o.flat) (N:Zr nt o.dst=true) (k:List Pl) (a:Act) (w:World) (r:Rel Z base nt s k a w) (b:Vn Z base w0 s.h k w) (Q':Exit->Act->World->Prop) :
  o.wp P a w (λS m=>Ext w m/\∃d h j,R d h/\Rel Z base nt ⟨Zi s.fr o.dst (d.shift s.h.length),s.h++h.map (Ob.shift s.h.length)⟩ j S m/\Vn Z base w0 (s.h++h.map (Ob.shift s.h.length)) j m/\Tr s.h k w (s.h++h.map (Ob.shift s.h.length)) j m/\∃v,S=a.put o.dst v) Q':=by
 obtain⟨M,hv,wO,Fp⟩:=SZ (r.eval x) hx;have L:base<=w.heap.size:=J5 Q6 b.1.size;obtain⟨q1,q2⟩:=S3 (r:=λd v=>QF Z s.h k w d v) (nf:=u) wO Fp (us:=g.toList.map a.eval) (args:=g.toList.map (Qr s.fr)) σ (λi y=>by
  have JH:i<g.toList.length:=by simpa using y
  simp only[nth,Q8,QU,KR];rw[QH JH];exact r.eval _)
 obtain⟨k1,k2⟩:=SX (r:=λd v=>QF Z s.h k w d v) (C:=λd v=>Cl (λ_=>True) w d v) (λd v p c hr E B=>QpP r.o n d v p c hr E B) _ (Jh u M (g.toList.map a.eval)) p H q1 q2 JV B;have hc:=hF (λ_=>True) w.heap.size w [] (Jh u M (g.toList.map a.eval)) (Qv _) (λ_ _=>trivial) ⟨rfl,λl l' b q q' e=>by simp at e,λl o e=>by simp at e,λl o b q e=>by simp at e⟩ ω (λi y=>.cl _ _ ((k2 i ω).mono λb _ _=>⟨⟨trivial,λl q e=>by simp at e⟩,rfl⟩));unfold Oper.wp;rw[S4 hf ho hv w];simp only[Oper.upon_enter];refine hc.mono λe m E=>?_;obtain⟨v,d,F,j,rfl,O,hO,hV,J,z⟩:=E;obtain⟨f1,f2⟩:=LP d F O;have K:=hO.eE (Z':=λ_=>False) f2;have I:=hV.eE (Z':=λ_=>False) f1;have U:∀b,free (λ_=>False) j b->free Z (k++j) b:=λb hb=>hb.1.elim;have Y:∀(l b q:Nat),j[l]?=some (some (b,q))->w.heap.size<=b:=λl b q e=>by rcases xI b w.heap.size with Qb|Xz;exact absurd e ((J.Kz b (λl q e=>by simp at e) Qb).1 l q);exact Xz
 have T:=Tr.join (h':=F.map (Ob.shift s.h.length)) r.o z Y;have W:=Zo.join r.o L z K U Y;refine⟨λi y=>z.block i y,d,F,k++j,O,?_,b.step T (z.mono L),T,v,rfl⟩;cases hd:o.dst with
 | none=>exact r.AI T W v
 | some t=>rw[hd]at N;exact r.to T W (vE N) (I.join r.o.len U)
def QpT(K:base<=w0.w.heap.size){o:Oper}{c s x e}{I:Array TypeId}{f g j}(B:Qm P f)(v:o.op=.call ⟨.value x,e,I⟩)
  (q:JP (Qr s.fr x)=some (f,g,j)) {n:Nat} {p:Prop} {i:List D} (M:YU (Wq s.h n) (Jh g j (e.toList.map (Qr s.fr)))=some (p,i)) (u:p) {R:D->List Ob->Prop} (E:QM P f i R)
  (L:∀d h,R d h->d.flat=true/\∀o∈h,o.flat) (t:Zr nt o.dst=true) (y:∀d h,R d h->AG P base nt w0 c Q ⟨Zi s.fr o.dst (d.shift s.h.length),s.h++h.map (Ob.shift s.h.length)⟩):AG P base nt w0 ((o,none)::c) Q s:=by
 intro Z z m a w r b;simp only[qA,XM,Vu];exact Oper.wp_mono (λH k ⟨_,d,h,J,C,l,F,_⟩=>y d h C Z z J H k l F) (QdH K B v q M u E L t m a w r b _)
def DG(m:Nat)(h:List Ob)(c:List Pl)(e:List Ob)(d:List Pl):Prop:=
 (∀b,XL c b->XL d b)/\∀(l:Nat) (o:Ob) (p:Pl),l<m->h[l]?=some o->c[l]?=some p->∃a,e[l]?=some a/\d[l]?=some p/\a.gen=o.gen/\a.sz=o.sz/\a.kd.ty=o.kd.ty
def DG.refl(m h a):DG m h a h a:=⟨λ_ h=>h,λ_ o p _ c b=>⟨o,c,b,rfl,rfl,rfl⟩⟩
def DG.trans{m h h' c d f g}(a:DG m h d h' f)(b:DG m h' f c g):DG m h d c g:=
 ⟨λx hx=>b.1 x (a.1 x hx),λl o p e u t=>by obtain⟨j,B,z,y,w,v⟩:=a.2 l o p e u t;obtain⟨i,s,r,q,n,k⟩:=b.2 l j p e B z;exact⟨i,s,r,by rw[q,y],by rw[n,w],by rw[k,v]⟩⟩
def Tr.keep{F h H:List Ob}{d s I w0 w m}(T:Tr F d w0 h s w)(B:F.length<=m)(K:DG m h s H I):Tr F d w0 H I w where
 Kz:=λb k Qb=>⟨K.1 b (T.Kz b k Qb).1,(T.Kz b k Qb).2⟩
 obj:=λl o p a j=>by obtain⟨g,f,n,r,L,E,C⟩:=T.obj l o p a j;obtain⟨t,i,z,J,v,u⟩:=K.2 l g f (wB (KL a) B) n r;exact⟨t,f,i,z,ω,by rw[u,E],λe=>by obtain⟨x,y⟩:=C ω;exact⟨by rw[v,x],y⟩⟩
 shape:=λl o O b q a M N j c el k=>by obtain⟨g,f,n,r,L,E,C⟩:=T.obj l o _ a j;obtain⟨t,i,z,J,v,u⟩:=K.2 l g f (wB (KL a) B) n r;rw[M]at i;cases i;exact T.shape l o g b q a n ω j c el k
def Wk(m:Nat)(s b:St):Prop:=∀(Z:Nat->Prop) (base nt:Nat) c a w,Rel Z base nt s c a w->∃d,Rel Z base nt b d a w/\DG m s.h c b.h d
def Wk.refl{m}(s):Wk m s s:=λ_ _ _ a _ _ r=>⟨a,r,.refl _ _ _⟩
def Wk.trans{m s d e}(h:Wk m s d)(k:Wk m d e):Wk m s e:=λZ b n g a w r=>
 let ⟨i,f,K⟩:=h Z b n g a w r;let ⟨j,c,l⟩:=k Z b n i a w f
 ⟨j,c,K.trans l⟩
def Vn.keep{h f a g w}(b:Vn Z base w0 h a w)(K:DG w0.F.length h a f g):Vn Z base w0 f g w:=⟨b.1,b.2.1.keep (Qv _) K,b.2.2.new,λl c q e n=>by by_cases d:XL a c;exact absurd e (K.1 c d l q);obtain⟨j,m⟩:=Oa.1 d;obtain⟨i,k⟩:=Oa.1 m;exact b.2.2.own j c i (Classical.not_not.1 k) n⟩
def Qs(w0:Start)(s b:St):Prop:=∀(Z:Nat->Prop),SS w0 Z->∀(base nt:Nat) c a w,Rel Z base nt s c a w->Vn Z base w0 s.h c w->∃d,Rel Z base nt b d a w/\Vn Z base w0 b.h d w
def Wk.up{s c}(h:Wk w0.F.length s c):Qs w0 s c:=λZ _ base nt e a w r b=>let ⟨f,d,K⟩:=h Z base nt e a w r;⟨f,d,b.keep K⟩
def Qs.refl(s):Qs w0 s s:=λ_ _ _ _ a _ _ r b=>⟨a,r,b⟩
def Qs.trans{s c e}(h:Qs w0 s c)(k:Qs w0 c e):Qs w0 s e:=λZ z d n g a w r b=>
 let ⟨j,f,i⟩:=h Z z d n g a w r b
 k Z z d n j a w f i
def A.YV{c s d}(h:Qs w0 s d)(k:A P base nt w0 c Q d):A P base nt w0 c Q s:=λZ z f a w r b=>let ⟨i,e,g⟩:=h Z z base nt f a w r b;k Z z i a w e g
def AG.YV{l s c}(h:Qs w0 s c)(k:AG P base nt w0 l Q c):AG P base nt w0 l Q s:=λZ z e a w r b=>let ⟨g,d,f⟩:=h Z z base nt e a w r b;k Z z g a w d f
def LS{c k s a}(h:Qs w0 s a)(b:QA P base nt w0 Q (.code c::k) .normal a):QA P base nt w0 Q (.code c::k) .normal s:=by simp only[QA]at b ⊢;exact b.YV h
def Hv(a:List (Nat × D)):List (Nat × D)->Prop
 | []=>True
 | (t,d)::r=>get a t=d/\Hv a r
def QdJ{a}:∀{r:List (Nat × D)},Hv a r->∀t d,(t,d)∈r->get a t=d
 | [],_,_,_,h=>by cases h
 | (u,e)::r,h,t,d,b=>by rcases QK.1 b with h1|h1;cases h1;exact h.1;exact QdJ h.2 t d h1
def QdK(b u):get b u=.undef\/(u,get b u)∈b:=by
 induction b with
 | nil=>exact .inl rfl
 | cons x r a=>
  obtain⟨t,d⟩:=x;simp only[get];by_cases h:t=u;subst h;simp;have:Nat.beq t u=false:=by rw[<-Yx,Wz];exact h
  rw[this];rcases a with a|a;exact .inl (zC a);exact .inr (by simp[a])
def Wk.frame{m c fr' h}(d:Hv c fr'):Wk m ⟨c,h⟩ ⟨fr',h⟩:=λZ base nt b a w r=>
 ⟨b,⟨r.nt,r.defers,λt=>by rcases QdK fr' t with h1|h1;show QF Z h b w (get fr' t) _;rw[h1];exact .cl _ _ (.undef _);have:=QdJ d _ _ h1;show QF Z h b w (get fr' t) _;rw[<-this];exact r.fr t,r.o⟩,.refl _ _ _⟩
def Kd.LU(k a:Kd):Prop:=k.ty=a.ty/\k.ro=a.ro
def OM(o a:Ob):Prop:=a.gen=o.gen/\a.sz=o.sz/\a.n=o.n/\a.kd.LU o.kd/\∀i,i<o.n->a.row i=o.row i
def B3:List Ob->List Ob->Prop
 | [],[]=>True
 | o::r,b::a=>OM o b/\B3 r a
 | _,_=>False
def eF:∀{h b:List Ob},B3 h b->b.length=h.length/\∀(l:Nat) (a:Ob),b[l]?=some a->∃o,h[l]?=some o/\OM o a
 | [],[],_=>⟨rfl,λl a e=>by simp at e⟩
 | [],_::_,h=>h.elim
 | _::_,[],h=>h.elim
 | o::r,a::i,h=>by
  obtain⟨g,f⟩:=eF h.2;refine⟨by simp[g],λl u e=>?_⟩;cases l with
  | zero=>simp at e;subst e;exact⟨o,rfl,h.1⟩
  | succ l=>simp at e;obtain⟨v,d,c⟩:=f l u e;exact⟨v,by simpa using d,c⟩
def QF.Hw{h E J w}(n:B3 h E){d v}(r:QF Z h J w d v):QF Z E J w d v:=by
 obtain⟨O,N⟩:=eF n;have q:∀(l:Nat) (o:Ob),h[l]?=some o->∃k,E[l]?=some k/\OM o k:=λl o e=>by
  have:l<E.length:=by rw[O];exact KL e
  obtain⟨R,m,c⟩:=N l _ (QH this);rw[e]at m;cases m;exact⟨_,QH this,c⟩
 induction r with
 | cl d v M=>exact .cl d v M
 | ref l g F H o p a I y x z B u=>obtain⟨k,m,c⟩:=q l o y;exact .ref l g F H k p a I m x (by rw[c.2.2.2.1.1];exact z) (by rw[c.1];exact B) (λe=>by rw[c.2.1];exact u (by rw[e,c.1]))
 | ptr l g i j o p a y x z B u=>obtain⟨k,m,c⟩:=q l o y;exact .ptr l g i j k p a m x (by rw[c.2.2.2.1.1];exact z) (by rw[c.1];exact B) (λe=>by rw[c.2.1];exact u (by rw[e,c.1]))
 | mref l g o p b y x z B u=>obtain⟨k,m,c⟩:=q l o y;exact .mref l g k p b m x (by rw[c.2.2.2.1.1];exact z) (by rw[c.1];exact B) (λe=>u (by rw[e,c.1]))
 | clo f L C s n K t=>exact .clo f L C s n t
 | agg C s n K t=>exact .agg C s n t
 | tup C s n K t=>exact .tup C s n t
def Wk.Hw{m fr h y}(n:B3 h y):Wk m ⟨fr,h⟩ ⟨fr,y⟩:=λZ base nt E a w r=>by
 obtain⟨C,u⟩:=eF n;refine⟨E,⟨r.nt,r.defers,λt=>(r.fr t).Hw n,⟨by rw[C];exact r.o.len,r.o.inj,λl g c f=>?_,λl g b q c f=>?_⟩⟩,λ_ h=>h,λl o p _ c f=>?_⟩;obtain⟨o,e,d⟩:=u l g c;rw[d.2.2.1];exact r.o.V7 l o e f;obtain⟨o,e,d,H,F,z,B⟩:=u l g c;obtain⟨I,x⟩:=r.o.at_ l o b q e f;exact⟨λk=>I (by rw[<-z.2,k]),x.to z.1 H F rfl (λi s=>by rw[B i s]) λi j v s _ k=>by rw[B i s];exact k.Hw n⟩;have Qb:l<y.length:=by rw[C];exact KL c
 obtain⟨J,e,d⟩:=u l _ (QH Qb);have c:h[l]?=some o:=c;rw[c]at e;cases e;exact⟨_,QH Qb,f,d.1,d.2.1,d.2.2.2.1.1⟩
mutual
def D.upto(k:Nat):D->Bool
 | .ref l _ _ _=>Nat.blt l k
 | .ptr l _ _ _=>Nat.blt l k
 | .mref l _=>Nat.blt l k
 | .clo _ _ a=>xP k a
 | .agg a=>xP k a
 | .tup a=>xP k a
 | _=>true
def xP(k:Nat):List D->Bool
 | []=>true
 | d::r=>d.upto k&&xP k r
end
def ON{k}:∀{b:List D},xP k b=true->∀i,i<b.length->(nth b i).upto k=true
 | [],_,i,h=>by simp at h
 | d::r,a,i,h=>by
  simp only[xP,ZM]at a;cases i with
  | zero=>exact a.1
  | succ i=>have:=ON a.2 i (zC h);simpa[nth] using this
def QF.take{h:List Ob}{E:List Pl}{w k}{d:D}{v}(r:QF Z h E w d v)(m:d.upto k=true):QF Z (h.take k) (E.take k) w d v:=by
 have N:∀b,free Z E b->free Z (E.take k) b:=λb F=>⟨F.1,λl q e=>by rw[XJ]at e;split at e;exact F.2 l q e;cases e⟩
 induction r with
 | cl d v M=>exact .cl d v (M.mono λb F _=>⟨N b F,rfl⟩)
 | ref l g H I o p a J x u y B t=>
  have:l<k:=by simpa[D.upto,xH] using m
  exact .ref l g H I o p a J (by rw[XJ,Qe this];exact x) (by rw[XJ,Qe this];exact u) y B t
 | ptr l g i j o p a x u y B t=>
  have:l<k:=by simpa[D.upto,xH] using m
  exact .ptr l g i j o p a (by rw[XJ,Qe this];exact x) (by rw[XJ,Qe this];exact u) y B t
 | mref l g o p b x u y B t=>
  have:l<k:=by simpa[D.upto,xH] using m
  exact .mref l g o p b (by rw[XJ,Qe this];exact x) (by rw[XJ,Qe this];exact u) y B t
 | clo f L C n z K s=>exact .clo f L C n z λi c=>s i c (ON (by simpa[D.upto] using m) i c)
 | agg C n z K s=>exact .agg C n z λi c=>s i c (ON (by simpa[D.upto] using m) i c)
 | tup C n z K s=>exact .tup C n z λi c=>s i c (ON (by simpa[D.upto] using m) i c)
def Hx(k:Nat):List (Nat × D)->Bool
 | []=>true
 | (_,d)::r=>d.upto k&&Hx k r
def QdL{k}:∀{a:List (Nat × D)},Hx k a=true->∀t,(get a t).upto k=true
 | [],_,t=>rfl
 | (u,d)::r,h,t=>by simp only[Hx,ZM]at h;simp only[get];cases Nat.beq u t;exact QdL h.2 t;exact h.1
def B4(k:Nat):List Ob->Prop
 | []=>True
 | o::r=>(∀i,i<o.n->xP k (o.row i)=true)/\B4 k r
def ph{k}:∀{h:List Ob},B4 k h->∀(l:Nat) (o:Ob),h[l]?=some o->∀i,i<o.n->xP k (o.row i)=true
 | [],_,l,o,e=>by simp at e
 | o::r,h,l,u,e=>by
  cases l with
  | zero=>simp at e;subst e;exact h.1
  | succ l=>simp at e;exact ph h.2 l u e
def Wk.drop{m}(k)(J:m<=k){fr}{h:List Ob}(E:Hx k fr=true)(C:B4 k (h.take k)):Wk m ⟨fr,h⟩ ⟨fr,h.take k⟩:=λZ base nt pl a w r=>by
 have f:∀(l:Nat) (p:Pl),(pl.take k)[l]?=some p->pl[l]?=some p:=λl p e=>by rw[XJ]at e;split at e;exact e;cases e
 have g:∀(l:Nat) (o:Ob),(h.take k)[l]?=some o->h[l]?=some o:=λl o e=>by rw[XJ]at e;split at e;exact e;cases e
 refine⟨pl.take k,⟨r.nt,r.defers,λt=>(r.fr t).take (QdL E t),⟨by simp[r.o.len],λl s b q n I H=>r.o.inj l s b q n (f _ _ I) (f _ _ H),λl o c d=>r.o.V7 l o (g _ _ c) (f _ _ d),λl o b q c d=>?_⟩⟩,
  λb B l q e=>B l q (f _ _ e),λl o p K c d=>⟨o,by show (h.take k)[l]? = _;rw[XJ,Qe ω];exact c,by rw[XJ,Qe ω];exact d,rfl,rfl,rfl⟩⟩
 obtain⟨F,x⟩:=r.o.at_ l o b q (g _ _ c) (f _ _ d);exact⟨F,x.to rfl rfl rfl rfl (λ_ _=>rfl) λi j v z y u=>u.take (ON (ph C l o c i z) j y)⟩
def Wk.vr{m f}{h:List Ob}(t g c)(k:get f t=.nil):Wk m ⟨f,h⟩ ⟨put f t (.ref h.length 0 0 0),h++[⟨.arr,0,g,0,c⟩]⟩:=λZ base nt d a w r=>by have T:Tr h d w (h++[⟨.arr,0,g,0,c⟩]) (d++[none]) w:=Tr.push r.o (λ_ _=>rfl) _ _ (by intro b q e;cases e);refine⟨d++[none],⟨r.nt,r.defers,λu=>?_,r.o.vr _ rfl⟩,λb v=>SC v (λq e=>by cases e),λl o p _ s n=>⟨o,BP s,BP n,rfl,rfl,rfl⟩⟩;show QF Z _ _ w (get (put f t (.ref h.length 0 0 0)) u) _;rw[E9];by_cases i:u=t;subst i;rw[Qe rfl];have:=r.fr u;have this:QF Z h d w (get f u) (a.tmps.getD u Go.undef):=this;rw[k]at this;obtain⟨x,j⟩:=AJ this;rw[j];have y:d.length=h.length:=r.o.len;exact .ref _ _ _ _ ⟨.arr,0,g,0,c⟩ none x 0 σ (by rw[<-y];simp) rfl (Qv _) (λ_=>.inl ⟨rfl,rfl⟩);rw[Qd i];exact(r.fr u).tr T
def eG(P:Program)(base nt:Nat)(w0:Start)(Q:Exit->St->Prop)(k:List Item)(I:Nat->St->Prop)(m:Nat):Exit->St->Prop
 | .normal,s=>∃b a,b<m/\Qs w0 s a/\I b a
 | e,s=>QA P base nt w0 Q k e s
def QpV{p:Nat->Prop}:∀n,p n->∃m,p m/\∀k,p k->m<=k:=by
 intro n;induction n using Nat.strongRecOn with
 | _ n b=>intro d;by_cases h:∃k,k<n/\p k;obtain⟨k,a,c⟩:=h;exact b k a c;exact⟨n,d,λk a=>Ll λQb=>h ⟨k,Qb,a⟩⟩
def eI{p:Nat->Prop}(h:∃n,p n):∃m,p m/\∀k,p k->m<=k:=let ⟨n,a⟩:=h;QpV n a
open Classical in
def Hy{c k s s0}(I K)(R:Qs w0 s s0)(V:I K s0)(d:∀m s,I m s->QA P base nt w0 (eG P base nt w0 Q k I m) [.code c] .normal s):QA P base nt w0 Q (.code (.loop c)::k) .normal s:=by
 simp only[QA];refine A.YV R ?_;intro Z z u a w r b;let J:Nat->Act->World->Prop:=λm a w=>∃s u,I m s/\Rel Z base nt s u a w/\Vn Z base w0 s.h u w;let o:Act->World->Nat:=λa w=>if h:∃m,J m a w then Classical.choose (eI h) else 0;refine wp_loop (λa w=>∃m,J m a w) o ⟨K,s0,u,V,r,b⟩ λa w y=>?_;have S:=(Classical.choose_spec (eI y)).1;have E:o a w=Classical.choose (eI y):=by simp only[o];rw[dif_pos y]
 obtain⟨M,C,U,O,Y⟩:=S;have:=d _ M U;simp only[QA]at this;refine wp_mono (this Z z C a w O Y) λe x t T=>?_;obtain⟨q,n,i,f,j⟩:=T;cases e with
 | normal=>
  obtain⟨g,L,Qb,F,H⟩:=i;obtain⟨B,N,W⟩:=F Z z base nt n x t f j;have v:J g x t:=⟨L,B,H,N,W⟩;refine⟨⟨g,v⟩,?_⟩;rw[E];have:o x t<=g:=by simp only[o];rw[dif_pos ⟨g,v⟩];exact(Classical.choose_spec (eI (p:=λm=>J m x t) ⟨g,v⟩)).2 g v
  omega
 | exit id=>exact⟨q,n,i,f,j⟩
 | goto l=>exact⟨q,n,i,f,j⟩
 | ret=>exact⟨q,n,i,f,j⟩
 | panic ch=>exact⟨q,n,i,f,j⟩
 | outgrown=>exact⟨q,n,i,f,j⟩
end
end Go.Fg
namespace Go.Fg
def Qp0{P a d b Q c s}(h:QA P a d b Q [.code c] .normal s):A P a d b c Q s:=by simp only[QA]at h;exact h.mono λe g f=>by cases e<;>exact f
def QdM{P:Program}{X}(j:q9 P X){f}{i:Func}{c}(n)(o:P.funcs[f]?=some i)(p:i.body=some c){F}{b:List D}{R g}(k:i.ntmps=g)(m:b.length<=g)
  (h:∀(a:Nat) (w:World) (e:List Pl),a<=w.heap.size->e.length=F.length->(exec X g n [.code c] ⟨kx b 0,F⟩).holds P a g ⟨w,F,e⟩ (AW X.L i.results.toList R)):QO P f F b R:=
 QpN j.L o p (by rw[k];exact m) λa w e l d=>Qp0 (by rw[k];exact vF j l n _ _ (h a w e l d))
end Go.Fg
namespace Go.Fg
open Go.RowKit (Below)
variable {Z:Nat->Prop}
inductive B5 (ops:Array Oper) (Zz:Array Bool) (i:Nat):Nat->Prop
 | S5 (j:Nat) (oj:Oper) (e:Edge) (hj:ops[j]?=some oj) (he:e∈oj.after) (hb:Region.binds .any e=true) (h:e.on=i):B5 ops Zz i j
 | step (j:Nat) (oj:Oper) (e:Edge) (hj:ops[j]?=some oj) (he:e∈oj.after) (hb:Region.binds .any e=true) (hu:Zz.getD e.on true=false) (h:B5 ops Zz i e.on):B5 ops Zz i j
def both{b:Array Bool}{i}(h:b.getD i true=false):b.getD i false=false:=by rcases xI i b.size with a|a;simp[a]at h ⊢;exact h;simp[Array.getElem?_eq_none a]at h
def B5.QdN{a}{g:Array Bool}{i j}(h:B5 a g i j)(o:g.getD i true=false):j ∉ Region.ready .any a g:=by
 intro n;obtain⟨_,p,b,k⟩:=mem_ready.1 n;cases h with
 | S5 _ l e c d f h=>rw[c]at b;cases b;have:=k e d f;rw[h,both o]at this;cases this
 | step _ l e c d f m h=>rw[c]at b;cases b;have:=k e d f;rw[both m]at this;cases this
def B5.set{a}{b:Array Bool}{i j k}(h:B5 a b i j)(p:b.getD i true=false)(o:k∈Region.ready .any a b):B5 a (b.setIfInBounds k true) i j:=by
 induction h with
 | S5 j c e d f g h=>exact .S5 j c e d f g h
 | step j c e d f g n h m=>
  refine .step j c e d f g ?_ m;have:k≠e.on:=λl=>by subst l;exact h.QdN p o
  rw[getD_set_ne true this];exact n
def AY(P:Program)(b:Array Oper)(N:Act->World->Prop)(e:Nat->World->World->Prop):Nat->Array Bool->Act->World->Prop
 | 0,c,a,w=>Region.ready .any b c=[]/\N a w
 | n+1,c,a,w=>(Region.ready .any b c=[]->N a w) /\
  ∀i∈Region.ready .any b c,wpOp P b (λ_ _ _=>False) i (λf d=>e i w d/\AY P b N e n (c.setIfInBounds i true) f d) a w
def Qp2{P}{o:Oper}{a w K Q}(h:o.wp P a w K (λ_ _ _=>False)):o.wp P a w K Q:=by
 unfold Oper.wp at *;generalize (execOp a.eval o).run P w=r at *;cases r with
 | ok n c=>
  cases n<;>simp only[Oper.upon]at h ⊢<;>first|exact h|skip
  exact Calls.mono h λe d b=>by cases e<;>first|exact b|exact b.elim|exact(let ⟨_,_,h⟩:=b;h.elim)
 | halt x c=>cases x<;>simp only[Oper.upon]at h ⊢<;>exact h.elim
def eK{P c N p Q}(b:∀a w,N a w->Q .normal a w):∀(n:Nat) (g:Array Bool) (a:Act) (w:World),AY P c N p n g a w->wpAny P .any c Q n g a w
 | 0,_,_,_,h=>⟨h.1,b _ _ h.2⟩
 | n+1,g,a,w,h=>⟨λe=>b _ _ (h.1 e),λi j=>by have:=h.2 i j;unfold wpOp at this ⊢;split;rename_i f;simp only[f]at this;exact eK b n _ _ _ this.2;rename_i o f;simp only[f]at this;split;rename_i d;simp only[d,Vu]at this;rcases this with l|⟨_,_,_,k⟩;exact .inl (Qp2 (Oper.wp_mono (λr q m=>eK b n _ _ _ m.2) l));exact k.elim;rename_i d;simp only[d]at this;exact eK b n _ _ _ this.2⟩
def still(L:Jt)(o:Oper):Bool:=match o.op with
 | .extract ..=>true
 | .move _=>true
 | .nilCheck _=>true
 | .fieldAddr t _ f=>match Ox L t f with
  | some (_,y)=>!Nat.beq y.size 0
  | none=>false
 | _=>false
def Qp3{P L}(q:Jm P L){o:Oper}(c:still L o=true){d w v}(h:(execOp d o).run P w=.ok (.value v) w)(j):(execOp d o).run P j=.ok (.value v) j:=by
 unfold still at c;split at c
 .rename_i x i b;simp only[execOp,b,Instr.extract]at h ⊢;split at h<;>first|skip|(simp at h)
  all_goals (first|(split at h<;>first|(simp at h)|skip)|skip)
  all_goals (first|(simp at h ⊢;exact h)|simp_all)
 rename_i x b;simp only[execOp,b]at h ⊢;simp at h ⊢;exact h;rename_i x b;exact((VH.nilCheck b d) w _ w h).2 j;rename_i t x f b;split at c;rename_i s y p;obtain⟨g,r,k,l,_,n⟩:=oq q p;have m:y.size≠0:=λe=>by rw[e]at c;cases c
 cases hx:d x with
 | pointer a=>
  cases a with
  | some a=>
   have e:∀w:World,(execOp d o).run P w=.ok (.value (.pointer (some (a.add r.offset)))) w:=λw=>by simp[execOp,b,hx,Instr.fieldAt,run_underlying k,l,Instr.sureAddr,fieldPlace,n.sizeOf,m]
   rw[e w]at h;rw[e j];simp at h ⊢;exact h
  | none=>simp[execOp,b,hx,Instr.fieldAt,run_underlying k,l,Instr.sureAddr,stuck]at h
 | _=>simp[execOp,b,hx,Instr.fieldAt,run_underlying k,l,Instr.sureAddr,stuck]at h
 cases c;cases c
def Qp4{P}{c:Array Oper}{N y i p v S}(r:∀w,y i w w)(B:c[i]?=some p)(L:∀(j:Nat) (o:Oper) q b,c[j]?=some o->o.op≠.select q b):
  ∀(d:Nat) (e:Array Bool) (a:Act) (m:World),S m ->
   (∀j n,c[j]?=some n->j≠i->e.getD j true=false->B5 c e i j\/((∀w t,y j w t->S w->S t)/\p.apart c n=true)) ->
   i∈Region.ready .any c e->YieldsIf P c S p v a ->
   AY P c N y d (e.setIfInBounds i true) (a.put p.dst v) m->AY P c N y (d+1) e a m:=by
 intro d;induction d with
 | zero=>intro e a m z _ g u H;refine⟨λh=>(by rw[h]at g;cases g),λj l=>?_⟩;by_cases f:j=i;subst f;exact u.wpOp B z ⟨r _,H⟩;have:=ready_mono l f;rw[H.1]at this;cases this
 | succ d Q=>
  intro e a m z K g u H;have M:=(mem_ready.1 g).1;refine⟨λh=>(by rw[h]at g;cases g),λj l=>?_⟩;by_cases f:j=i;subst f;exact u.wpOp B z ⟨r _,H⟩;have U:=H.2 j (ready_mono l f);obtain⟨I,n,E,JR⟩:=mem_ready.1 l;obtain⟨W,B6⟩:=(K j n E f I).resolve_left λC=>C.QdN M l;have T:=wpOp_putIf E B6 (λq b=>L i p q b B) (λq b=>L j n q b E) (λ_ _ _ h=>h) u U;refine wpOp_mono (λV t x=>?_) T;refine⟨x.2.1,Q (e.setIfInBounds j true) V t (W _ _ x.2.1 z) (λk O R Y s=>?_) (ready_mono g (Zb f)) x.1 ?_⟩;have F:e.getD k true=false:=by by_cases J:j=k;subst J;exact I;rw[getD_set_ne true J]at s;exact s
  exact(K k O R Y F).imp (λC=>C.set M l) id;rw[Array.setIfInBounds_comm _ _ f];exact x.2.2
def Vh(i:Nat):List Nat->Bool
 | []=>false
 | j::r=>Nat.beq i j || Vh i r
def xQ{i}:∀{l:List Nat},Vh i l=true↔i∈l
 | []=>by simp[Vh]
 | j::r=>by simp[Vh,xQ (l:=r)]
def eM(i:Nat):List Edge->Bool
 | []=>false
 | e::r=>(Region.binds .any e&&Nat.beq e.on i) || eM i r
def vG(done:List Nat):List Edge->Bool
 | []=>false
 | e::r=>(Region.binds .any e&&!Vh e.on done) || vG done r
def OS(a:Array Oper)(done:List Nat)(i:Nat):Nat->List Edge->Bool
 | 0,_=>false
 | _+1,[]=>false
 | n+1,e::r=>(Region.binds .any e&&(Nat.beq e.on i || (!Vh e.on done&&match a[e.on]? with
   | some o=>OS a done i n o.after.toList
   | none=>false))) || OS a done i n r
def DH(o:Oper):Bool:=match o.op with
 | .load ..=>true
 | _=>false
def DI(o:Oper):Bool:=match o.op with
 | .insert ..=>true
 | _=>false
def S6(d:List Nat)(L:Jt)(a:Array Oper)(done:List Nat)(i:Nat)(c:Oper):List (Nat × Bool × Option Oper)->Bool
 | []=>true
 | (j,_,some b)::r=>(eM i b.after.toList || (((calm b&&!Vh j d) || still L c || (DH c&&DI b))&&c.apart a b) || OS a done i (4*a.size) b.after.toList)&&S6 d L a done i c r
 | (_,_,none)::_=>false
def eN(l:List Nat):Nat->Bool
 | 0=>true
 | n+1=>Vh n l&&eN l n
def QdQ{l}:∀{n:Nat},eN l n=true->∀j,j<n->j∈l
 | 0,_,j,h=>ω
 | n+1,h,j,a=>by simp only[eN,ZM,xQ]at h;by_cases e:j=n;subst e;exact h.1;exact QdQ h.2 j ω
def QdR{i}:∀{l:List Edge},eM i l=true->∃e∈l,Region.binds .any e=true/\e.on=i
 | [],h=>by cases h
 | e::r,h=>by simp only[eM,BJ,ZM,Wz]at h;rcases h with h|h;exact⟨e,σ,h.1,h.2⟩;obtain⟨c,b,a⟩:=QdR h;exact⟨c,by simp[b],a⟩
def QdS{done}:∀{l:List Edge},vG done l=true->∃e∈l,Region.binds .any e=true/\e.on ∉ done
 | [],h=>by cases h
 | e::r,h=>by simp only[vG,BJ,ZM,qV]at h;rcases h with h|h;exact⟨e,σ,h.1,λa=>by rw[xQ.2 a]at h;cases h.2⟩;obtain⟨d,c,b⟩:=QdS h;exact⟨d,by simp[c],b⟩
def eO{done}:∀{l:List Edge},vG done l=false->∀e∈l,Region.binds .any e=true->e.on∈done
 | [],_,e,h,_=>by cases h
 | e::r,h,c,b,a=>by simp only[vG,EP,GU]at h;rcases QK.1 b with h1|h1;subst h1;rcases h.1 with h2|h2;rw[a]at h2;cases h2;exact xQ.1 (zC h2);exact eO h.2 c h1 a
structure Marks (ops:Array Oper) (Zz:Array Bool) (done:List Nat):Prop where
 size:Zz.size=ops.size
 get:∀j,j<ops.size->(Zz.getD j true=false↔j ∉ done)
 get':∀j,Zz.getD j false=true↔j∈done/\j<ops.size
 lt:∀j,j∈done->j<ops.size
def Marks.set{a:Array Oper}{d:Array Bool}{done}(M:Marks a d done){i}(c:i<a.size):Marks a (d.setIfInBounds i true) (i::done) where
 size:=by simp[M.size]
 get:=λj b=>by by_cases e:i=j;subst e;simp[M.size,c];rw[getD_set_ne true e,M.get j b];simp[Zb e]
 get':=λj=>by by_cases e:i=j;subst e;simp[M.size,c];rw[getD_set_ne false e,M.get' j];simp[Zb e]
 lt:=λj b=>by rcases QK.1 b with e|e;subst e;exact c;exact M.lt j e
def zd(o:Oper):Bool:=match o.op with
 | .alloc _=>true
 | .makeMap _ none=>true
 | _=>false
def Hz(P:Program)(o:Oper)(d:Ob)(mk:Nat->D):Prop:=∃(obj:Obj) (a:Nat->Value),
 (∀(e:Operand->Value) (w:World),(execOp e o).run P w=.ok (.value (a w.heap.size)) (w.alloc obj)) /\
 (∀(Z:Nat->Prop) (h:List Ob) (c:List Pl) (w:World) (b:Nat),w.heap[b]?=some obj->KK Z h c w d b 0) /\
 (∀(Z:Nat->Prop) (h:List Ob) (c:List Pl) (w:World) (l b:Nat),h[l]?=some d->c[l]?=some (some (b,0))->QF Z h c w (mk l) (a b))
def QdT{P L}(n:Jm P L){o:Oper}{t:TypeId}(g:o.op=.alloc t){y}(f:ty L t=some y):
  Hz P o ⟨.one,0,(y.zero.map Ke).length,1,λ_=>y.zero.map Ke⟩ (λl=>.ptr l 0 0 0):=by
 obtain⟨z,hz,r⟩:=(n _ _ f).zeroValue;refine⟨.cells z.cells t,λb=>.pointer (some ⟨b,0,none⟩),fun s w=>?_,λZ h d w b m=>?_,λZ h d w l b q p=>?_⟩;simp[execOp,g,Instr.alloc,newVar,newRow,r];refine .Ov rfl ⟨z.cells,t,m,by simp[<-hz],λ_ _=>rfl,λi j k a=>?_⟩;have e:i=0:=by simp at k;omega
 subst e;have c:j<z.cells.size:=by rw[<-hz]at a;simpa using a
 refine⟨Q8 z.cells.toList j,?_,.cl _ _ ?_⟩;simp only[G1,JG,Q8,QU];rw[wy,jY c];rfl;rw[<-hz];simp only[nth,Q8,QU,KR,wy,jY c,Kq,Va];exact Ds _ _ _;exact .ptr _ _ _ _ _ (some (b,0)) _ q p rfl (Qv _) (λ_=>⟨_,_,rfl,σ⟩)
def QdU{P}{o:Oper}{t:TypeId}(d:o.op=.makeMap t none)(q):Hz P o (QT q 0 []) (λl=>.mref l 0):=by refine⟨.map #[] 0,λb=>.map (some b),fun m w=>?_,λZ h c w b f=>?_,λZ h c w l b k g=>?_⟩;simp[execOp,d,Instr.makeMap];exact oZ (kd:=.map) f ⟨rfl,λi e a h=>by simp at h,λi j a n _ h=>by simp at h⟩ rfl;exact .mref _ _ (QT q 0 []) (some (b,0)) b k g ⟨by simp[QT,WB,Kd.ty],rfl⟩ (Qv _) (λ_=>rfl)
section
variable (P:Program)(base nt:Nat)(w0:Start)
def Fq(o : Oper): Bool := calm o && !(o.pos == "!")
def qB(b : Bool)(o : Oper): Oper := ⟨o.dst, o.op, o.type, bif b then "!" else "", #[], none⟩
theorem QdV{P b}{o:Oper}{a w K Q}:(qB b o).wp P a w K Q=o.wp P a w K Q:=rfl
def Qp6(b o):Fq (qB b o)=(calm o&&!b):=by cases b<;>simp[Fq,qB,calm]
def vH(o:Oper)(w a:World):Prop:=match o.op with
 | .insert ..=>kj w a
 | _=>Fq o=true->Ext w a
def vH.ext{o w a}(h:Ext w a):vH o w a:=by unfold vH;split;exact .ext h;exact λ_=>h
def vH.calm{o w a}(h:vH o w a)(b:Fq o=true):Ext w a:=by unfold vH at h;split at h;rename_i c;simp[Fq,Go.Fg.calm,c]at b;exact h b
def vH.ins{o w b}(h:vH o w b)(a:DI o=true):kj w b:=by unfold DI at a;split at a;rename_i c;unfold vH at h;rw[c]at h;exact h;cases a
def vH.mk{o w a}(h:Fq o=true->Ext w a)(c:DI o=false):vH o w a:=by unfold vH;split;rename_i b;simp[DI,b]at c;exact h
def xR(c:List Nat)(a:Array Oper)(i:Nat)(w b:World):Prop:=match a[i]? with
 | some o=>vH (qB (Vh i c) o) w b
 | none=>True
def LW{c}{a:Array Oper}{i o w b}(d:a[i]?=some o):xR c a i w b=vH (qB (Vh i c) o) w b:=by simp only[xR,d]
def AE(o:Oper)(F:St->Prop)(s:St):Prop:=∀(Z:Nat->Prop),SS w0 Z->∀e a w,Rel Z base nt s e a w->Vn Z base w0 s.h e w ->
 o.wp P a w (λg b=>vH o w b/\∃d c f v,F ⟨Zi s.fr o.dst d,c⟩/\Rel Z base nt ⟨Zi s.fr o.dst d,c⟩ f g b/\Vn Z base w0 c f b/\Tr s.h e w c f b/\g=a.put o.dst v) (λ_ _ _=>False)
def XA(b:Bool)(o:Oper)(F:St->Prop)(s:St):Prop:=match b with
 | true=>∃d,WL P base nt o s d/\(DH o=true->cM P base nt o s d)/\Zr nt o.dst=true/\F ⟨Zi s.fr o.dst d,s.h⟩
 | false=>match zd o with
  | true=>∃a mk,Hz P o a mk/\Zr nt o.dst=true/\F ⟨Zi s.fr o.dst (mk s.h.length),s.h++[a]⟩
  | false=>AE P base nt w0 o F s
def AX(K:St->Prop):List (Bool × Oper × G)->St->Prop
 | [],s=>K s
 | (a,o,g)::r,s=>match g with
  | none=>XA P base nt w0 a o (AX K r) s
  | some (none,_)=>Zr nt o.dst=true/\AX K r ⟨Zi s.fr o.dst (.raw Go.undef),s.h⟩
  | some (some t,b)=>match get s.fr t with
   | .raw (.bool x)=>(x=b->XA P base nt w0 a o (AX K r) ⟨put s.fr t (.raw (.bool b)),s.h⟩) /\
     (x=(!b)->Zr nt o.dst=true/\AX K r ⟨Zi (put s.fr t (.raw (.bool (!b)))) o.dst (.raw Go.undef),s.h⟩)
   | .raw (.tuple _)=>Zr nt o.dst=true/\AX K r ⟨Zi s.fr o.dst (.raw Go.undef),s.h⟩
   | _=>False
end
def Vo(c:List Nat)(a:Array Oper)(l:List (Nat × Bool)):List (Bool × Oper × G):=l.map λb=>match a[b.1]? with
 | some o=>(b.2,qB (Vh b.1 c) o,guardOf a o)
 | none => (b.2, ⟨none, .move (.tmp 0), 0, "", #[], none⟩, none)
section
variable {nc:List Nat}{P:Program}{base nt:Nat}{w0:Start}
def Qp7{o:Oper}{c mk F}{s:St}(h:Hz P o c mk)(j:Zr nt o.dst=true)(B:base<=w0.w.heap.size)(u:F ⟨Zi s.fr o.dst (mk s.h.length),s.h++[c]⟩):AE P base nt w0 o F s:=by
 intro Z z d a w r b;obtain⟨obj,g,y,x,v⟩:=h;have e:∀k,k<w.heap.size->(w.alloc obj).heap[k]? = w.heap[k]? := λk f=>xK w obj k f;have C:(w.alloc obj).heap[w.heap.size]?=some obj:=heap_alloc_new w obj;have i:base<=w.heap.size:=J5 B b.1.size;have T:Tr s.h d w (s.h++[c]) (d++[some (w.heap.size,0)]) (w.alloc obj):=Tr.push r.o e _ _ (by intro k q n;simp at n;omega);have l:=Zo.SD r.o e c (Qv _) i (x Z (s.h++[c]) (d++[some (w.heap.size,0)]) _ _ C);have m:QF Z (s.h++[c]) (d++[some (w.heap.size,0)]) (w.alloc obj) (mk s.h.length) (g w.heap.size):=v Z _ _ _ _ _ σ (by rw[<-r.o.len];simp);unfold Oper.wp;rw[y a.eval w];simp only[Oper.upon_value];refine⟨vH.ext λk f=>e k f,_,_,_,_,u,?_,b.step T (Fe i obj),T,rfl⟩;cases p:o.dst with
 | none=>exact r.AI T l _
 | some t=>rw[p]at j;exact r.to T l (vE j) m
def XA.ae(d:base<=w0.w.heap.size){o F s}(h:XA P base nt w0 false o F s):AE P base nt w0 o F s:=by simp only[XA]at h;split at h;obtain⟨e,mk,c,b,a⟩:=h;exact Qp7 c b d a;exact h
def QF.OT{Z M h L B F}{w C:World}(Q:∀b,free Z B b->b<w.heap.size->free M F b/\C.heap[b]? = w.heap[b]?)
  (n:∀(l:Nat) (o:Ob) (p:Pl),h[l]?=some o->B[l]?=some p->L[l]?=some o/\F[l]?=some p) (R:∀(l b q:Nat),B[l]?=some (some (b,q))->C.heap[b]? = w.heap[b]?) {d:D} {v:Value} (r:QF Z h B w d v):QF M L F C d v:=by
 induction r with
 | cl d v E=>exact .cl d v (E.mono Q)
 | ref l g H I o p a J k e x y u=>refine .ref l g H I o p a J (n l o p k e).1 (n l o p k e).2 x y λV=>?_;rcases u V with T|⟨b,q,c,el,N,S,U,E,m⟩;exact .inl T;exact .inr ⟨b,q,c,el,N,S,by rw[R l b q (by rw[e,N])];exact U,E,m⟩
 | ptr l g i j o p a k e x y u=>exact .ptr l g i j o p a (n l o p k e).1 (n l o p k e).2 x y u
 | mref l g o p b k e x y u=>exact .mref l g o p b (n l o p k e).1 (n l o p k e).2 x y u
 | clo f O z s m K t=>exact .clo f O z s m t
 | agg z s m K t=>exact .agg z s m t
 | tup z s m K t=>exact .tup z s m t
def Zo.OT{Z g h c}{w f:World}(R:Zo Z base h c w)(n:∀b,free Z c b->b<w.heap.size->free g c b/\f.heap[b]? = w.heap[b]?)(e:∀b,b<w.heap.size->f.heap[b]? = w.heap[b]?):Zo g base h c f where
 len:=R.len
 inj:=R.inj
 V7:=R.V7
 at_:=λl o b q m d=>by obtain⟨p,x⟩:=R.at_ l o b q m d;exact⟨p,x.to rfl rfl rfl (e b (R.lt d).1) (λ_ _=>rfl) λi j v _ _ k=>k.OT n (λ_ _ _ a b=>⟨a,b⟩) (λl b q d=>e b (R.lt d).1)⟩
def Zo.pn{Z s h k w}(R:Zo Z base h k w){b}(C:∀c,free Z k c->free s (k++[some (b,0)]) c)(y:XL k b)(J:base<=b){n}
  (z:KK s (h++[n]) (k++[some (b,0)]) w n b 0):Zo s base (h++[n]) (k++[some (b,0)]) w:=by
 refine⟨by simp[R.len],?_,?_,?_⟩;intro l u r q t p H;rcases Yz p with e|⟨e,f⟩<;>rcases Yz H with d|⟨d,g⟩;exact R.inj l u r q t e d;simp at g;obtain⟨rfl,rfl⟩:=g;exact absurd e (y l q);simp at f;obtain⟨rfl,rfl⟩:=f;exact absurd d (y u t);omega;intro l o m p;rcases Yz p with e|⟨e,f⟩;rcases Yz m with d|⟨d,g⟩;exact R.V7 l o d e;have:=WA e;have:=R.len;omega;simp at f;intro l o r q m I;rcases Yz I with e|⟨e,f⟩;rcases Yz m with d|⟨d,g⟩;obtain⟨F,x⟩:=R.at_ l o r q d e;exact⟨F,x.to rfl rfl rfl rfl (λ_ _=>rfl) λi j v _ _ B=>B.OT (λc E _=>⟨C c E,rfl⟩) (λ_ _ _ a b=>⟨BP a,BP b⟩) (λ_ _ _ _=>rfl)⟩;have:=WA e;have:=R.len;omega;rcases Yz m with d|⟨d,g⟩;have:=KL d;have:=R.len;omega;subst g;simp at f;obtain⟨rfl,rfl⟩:=f;exact⟨λ_=>J,z⟩
def WM(a:Array Oper)(i:Nat):Bool:=match a[i]? with
 | some o=>zd o&&o.guard.isNone&&o.after.toList.isEmpty
 | none=>false
def OU(a:Array Oper)(done:List Nat)(i:Nat):List Edge->Bool
 | []=>false
 | e::r=>(Region.binds .any e&&!Vh e.on done&&(!WM a e.on || Nat.beq e.on i)) || OU a done i r
def S8(a:Array Oper)(done:List Nat)(i:Nat):List (Nat × Bool × Option Oper)->Bool
 | []=>true
 | (j,_,some b)::r=>(WM a j || OU a done i b.after.toList)&&S8 a done i r
 | (_,_,none)::_=>false
def LX(a:Array Oper)(R:List Nat):List (Nat × Bool × Option Oper):=R.map λi=>(i,false,a[i]?)
def Fs(nc:List Nat)(L:Jt)(a:Array Oper)(R:List Nat):List (Nat × Bool × Option Oper)->List Nat->Bool
 | [],_=>true
 | (i,p,some o)::r,done=>!Vh i done&&!vG done o.after.toList&&(match p with
  | true=>!WM a i&&S6 nc L a done i o (r++LX a R)
  | false=>S8 a done i (r++LX a R))&&Fs nc L a R r (i::done)
 | (_,_,none)::_,_=>false
def QdW{a done i}:∀{l:List Edge},OU a done i l=true->∃e∈l,Region.binds .any e=true/\e.on ∉ done/\(WM a e.on=false\/e.on=i)
 | [],h=>by cases h
 | e::r,h=>by simp only[OU,BJ,ZM,qV,Wz]at h;rcases h with h|h;exact⟨e,σ,h.1.1,(λb=>by rw[xQ.2 b]at h;exact absurd h.1.2 σ),h.2⟩;obtain⟨f,d,c⟩:=QdW h;exact⟨f,by simp[d],c⟩
def QdX{a:Array Oper}{done i}:∀{r:List (Nat × Bool × Option Oper)},(∀x∈r,x.2.2=a[x.1]?)->S8 a done i r=true->∀x∈r,∀b,a[x.1]?=some b->WM a x.1=true\/OU a done i b.after.toList=true
 | [],_,_,x,hx,_,_=>by cases hx
 | (j,p,none)::r,_,h,_,_,_,_=>by cases h
 | (j,p,some o)::r,d,h,x,hx,b,c=>by simp only[S8,ZM,BJ]at h;rcases QK.1 hx with h1|h1;subst h1;have e:some o=a[j]? := d (j,p,some o) σ;have c:a[j]?=some b:=c;rw[c]at e;cases e;exact h.1;exact QdX (λy f=>d y (by simp[f])) h.2 x h1 b c
abbrev En:=Nat × Bool × Option Nat
def X1(l:List En):List Nat:=l.map (·.1)
def YX(l:List En):List (Nat × Bool):=l.map λx=>(x.1,x.2.1)
def early:List En->List Nat
 | []=>[]
 | (i,_,some _)::r=>i::early r
 | (_,_,none)::r=>early r
def blocks:List En->List Nat
 | []=>[]
 | (_,_,some b)::r=>b::blocks r
 | (_,_,none)::r=>blocks r
def YY:List En->Nat
 | []=>0
 | (_,_,some _)::r=>YY r
 | (_,_,none)::r=>YY r+1
def LY{j}:∀{l:List En},j∈early l↔∃p b,(j,p,some b)∈l
 | []=>by simp[early]
 | (i,p,some b)::r=>by simp only[early,QK,LY (l:=r),Zg,Q7];constructor;rintro (rfl|⟨a,c,h⟩);exact⟨p,b,.inl ⟨rfl,rfl,rfl⟩⟩;exact⟨a,c,.inr h⟩;rintro⟨a,c,⟨rfl,_⟩|h⟩;exact .inl rfl;exact .inr ⟨a,c,h⟩
 | (i,p,none)::r=>by simp only[early,QK,LY (l:=r),Zg,reduceCtorEq,and_false,false_or]
def Ft{c}:∀{l:List En},c∈blocks l↔∃j p,(j,p,some c)∈l
 | []=>by simp[blocks]
 | (i,p,some b)::r=>by simp only[blocks,QK,Ft (l:=r),Zg,Q7];constructor;rintro (rfl|⟨a,d,h⟩);exact⟨i,p,.inl ⟨rfl,rfl,rfl⟩⟩;exact⟨a,d,.inr h⟩;rintro⟨a,d,⟨_,_,rfl⟩|h⟩;exact .inl rfl;exact .inr ⟨a,d,h⟩
 | (i,p,none)::r=>by simp only[blocks,QK,Ft (l:=r),Zg,reduceCtorEq,and_false,false_or]
def po{j:Nat}{p:Bool}{b:Nat}{l2:List En}:∀a:List En,YY (a++(j,p,none)::l2)=YY (a++(j,p,some b)::l2)+1
 | []=>rfl
 | (_,_,some _)::r=>po r
 | (_,_,none)::r=>by simp only[qs,YY];rw[po (b:=b) r]
def pq{j:Nat}{p:Bool}{b:Nat}{a:List En}:∀d:List En,b ∉ blocks (d++(j,p,none)::a)->(blocks (d++(j,p,none)::a)).Nodup->(blocks (d++(j,p,some b)::a)).Nodup
 | [],h,k=>by simp only[qv,blocks]at h k ⊢;exact Z6.2 ⟨h,k⟩
 | (i,q,some c)::r,h,k=>by simp only[qs,blocks,QK,q6]at h k ⊢;obtain⟨f,l⟩:=Z6.1 k;refine Z6.2 ⟨λm=>?_,pq r h.2 l⟩;obtain⟨g,e,n⟩:=Ft.1 m;rcases Q3.1 n with h1|h1;exact f (Ft.2 ⟨g,e,Q3.2 (.inl h1)⟩);rcases QK.1 h1 with h2|h2;cases h2;exact h.1 rfl;exact f (Ft.2 ⟨g,e,Q3.2 (.inr (QK.2 (.inr h2)))⟩)
 | (i,q,none)::r,h,k=>by simp only[qs,blocks]at h k ⊢;exact pq r h k
structure eP (P:Program) (ops:Array Oper) (nt:Nat) (w0:Start) (pl:List Pl) (a:Act) (w:World) (i b:Nat):Prop where
 run:∃(o:Oper) (d:Nat) (w1:World) (ρ:Operand->Value) (v:Value) (obj:Obj),ops[i]?=some o/\o.dst=some d/\(execOp ρ o).run P w1=.ok (.value v) (w1.alloc obj)/\b=w1.heap.size/\w.heap[b]?=some obj/\(d<nt->a.tmps.getD d Go.undef=v)
 XL:XL pl b
 low:w0.w.heap.size<=b
def QdY{a:Act}{t:Option Nat}{d:Nat}{v:Value}(h:t≠some d):(a.put t v).tmps.getD d Go.undef=a.tmps.getD d Go.undef:=by
 cases t with
 | none=>rfl
 | some t=>have:t≠d:=λe=>h (by rw[e]);simp[Act.put,yw,nS this]
def eP.step{P:Program}{c:Array Oper}{nt:Nat}{w0:Start}{h h':List Ob}{f l:List Pl}{a:Act}{w e:World}{i b:Nat}(p:eP P c nt w0 f a w i b)(T:Tr h f w h' l e){t:Option Nat}(v:Value)
  (x:∀o d,c[i]?=some o->o.dst=some d->t≠some d):eP P c nt w0 l (a.put t v) e i b:=by
 obtain⟨o,d,n,m,u,obj,k,j,B,z,g,y⟩:=p.run;obtain⟨r,q⟩:=T.Kz b p.XL (vq g);exact⟨⟨o,d,n,m,u,obj,k,j,B,z,by rw[q];exact g,λs=>by rw[QdY (x o d k j)];exact y s⟩,r,p.low⟩
def eQ{a t u d}(h:t≠some u):get (Zi a t d) u=get a u:=by
 cases t with
 | none=>rfl
 | some t=>rw[Zi,E9,Qd (λe=>h (by rw[e]))]
structure yL (nc:List Nat) (P:Program) (L:Jt) (ops:Array Oper) (R:List Nat) (base nt:Nat) (w0:Start) (Z0 Z:Nat->Prop) (l:List En) (done:List Nat) (Zz:Array Bool) (s:St) (pl:List Pl) (a:Act) (w:World):Prop where
 sched:Fs nc L ops R ((YX l).map λip=>(ip.1,ip.2,ops[ip.1]?)) done=true
 cover:∀j,j<ops.size->j ∉ done->j∈X1 l\/j∈R
 OV:∀j∈R,j ∉ done/\j ∉ X1 l/\WM ops j=false
 marks:Marks ops Zz (early l++done)
 late:∀i p b,(i,p,some b)∈l->WM ops i=true
 lp:∀i p q,(i,p,q)∈l->WM ops i=true->p=false
 z:∀b,Z b↔Z0 b/\b ∉ blocks l
 z0:∀i p b,(i,p,some b)∈l->Z0 b
 eR:(blocks l).Nodup
 S9:∀i p q,(i,p,q)∈l->WM ops i=true->∀o d,ops[i]?=some o->o.dst=some d->get s.fr d=.undef
 rel:Rel Z base nt s pl a w
 since:Vn Z base w0 s.h pl w
 LZ:∀i p b,(i,p,some b)∈l->eP P ops nt w0 pl a w i b
def eT{L}{a:Array Oper}{R}:∀{l:List En} {done:List Nat},Fs nc L a R ((YX l).map λc=>(c.1,c.2,a[c.1]?)) done=true->∀j,j∈X1 l->j ∉ done
 | [],_,_,j,b=>by simp[X1]at b
 | (i,p,q)::r,done,h,j,b=>by
  simp only[YX,Jr]at h;cases e:a[i]? with
  | none=>rw[e]at h;cases h
  | some o=>
   rw[e]at h;simp only[Fs,ZM,qV]at h;simp only[X1,Jr,QK]at b;rcases b with rfl|b;exact λd=>by rw[xQ.2 d]at h;exact absurd h.1.1.1 σ
   exact λd=>eT (l:=r) h.2 j b (QK.2 (.inr d))
def Marks.same{a e d c}(M:Marks a e d)(h:∀j,j∈d↔j∈c):Marks a e c where
 size:=M.size
 get:=λj b=>by rw[M.get j b,h]
 get':=λj=>by rw[M.get',h]
 lt:=λj b=>M.lt j ((h j).2 b)
def eU{a:Array Oper}{i}{o:Oper}(b:a[i]?=some o)(h:WM a i=true):zd o=true/\o.guard=none/\∀e,e ∉ o.after:=by simp only[WM,b,ZM,Option.isNone_iff_eq_none,List.isEmpty_iff]at h;exact⟨h.1.1,h.1.2,λe c=>by have:e∈o.after.toList:=(zC c);rw [h.2] at this; cases this⟩
def pw{a:Array Oper}{t done s}(M:Marks a t (s++done))(p:∀j∈s,WM a j=true){i}:∀{n:Nat} {j:Nat} {b:Oper} {l:List Edge},a[j]?=some b->(∀e∈l,e∈b.after)->OS a done i n l=true->B5 a t i j
 | 0,_,_,_,_,_,h=>by cases h
 | n+1,_,_,[],_,_,h=>by cases h
 | n+1,j,b,e::r,m,k,h=>by simp only[OS,BJ,ZM,Wz,qV]at h;rcases h with ⟨q,f|⟨f,d⟩⟩|h;exact .S5 j b e m (k e σ) q f;split at d;rename_i o g;have Qb:=(W0.1 g).1;refine .step j b e m (k e σ) q ((M.get e.on Qb).2 λu=>?_) (pw M p g (λe c=>by simpa using c) d);rcases Q3.1 u with h3|h3;have v:=(eU g (p _ h3)).2.2;have:o.after.toList=[]:=nU.2 λe c=>v e (zC c);rw[this]at d;cases n<;>simp[OS]at d;rw[xQ.2 h3]at f;cases f;cases d;exact pw M p m (λe c=>k e (by simp[c])) h
def QdZ{L}{a:Array Oper}{done k i}{d:Oper}{l}(M:Marks a l (k++done))(m:∀j∈k,WM a j=true):∀{r:List (Nat × Bool × Option Oper)},(∀x∈r,x.2.2=a[x.1]?)->S6 nc L a done i d r=true->∀x∈r,∀b,a[x.1]?=some b->B5 a l i x.1\/((((calm b=true/\Vh x.1 nc=false)\/still L d=true)\/(DH d=true/\DI b=true))/\d.apart a b=true)
 | [],_,_,x,hx,_,_=>by cases hx
 | (j,p,none)::r,_,h,_,_,_,_=>by cases h
 | (j,p,some o)::r,g,h,x,hx,b,c=>by simp only[S6,ZM,BJ]at h;rcases QK.1 hx with h1|h1;subst h1;have e:some o=a[j]? := g (j,p,some o) σ;have c:a[j]?=some b:=c;rw[c]at e;cases e;rcases h.1 with (h2|h2)|h2;obtain⟨e,f,q,s⟩:=QdR h2;exact .inl (.S5 j _ e c (zC f) q s);simp only[qV]at h2;exact .inr h2;exact .inl (pw M m c (λe f=>by simpa using f) h2);exact QdZ M m (λy n=>g y (by simp[n])) h.2 x h1 b c
def Ta(a:Array Oper):Prop:=∀(i j:Nat) (c b:Oper) (d:Nat),i≠j->WM a i=true->a[i]?=some c->a[j]?=some b->c.dst=some d->b.dst≠some d
def yL.head{L b R n Z i p q r done m s g a w}(I:yL nc P L b R base nt w0 n Z ((i,p,q)::r) done m s g a w):
  ∃o,b[i]?=some o/\i ∉ done/\(∀e∈o.after,Region.binds .any e=true->e.on∈done) /\
   (p=true->WM b i=false/\S6 nc L b done i o ((YX r).map (λc=>(c.1,c.2,b[c.1]?))++LX b R)=true)/\(p=false->S8 b done i ((YX r).map (λc=>(c.1,c.2,b[c.1]?))++LX b R)=true) /\
   Fs nc L b R ((YX r).map λc=>(c.1,c.2,b[c.1]?)) (i::done)=true:=by
 have h:=I.sched;simp only[YX,Jr]at h;cases f:b[i]? with
 | none=>rw[f]at h;cases h
 | some o=>rw[f]at h;simp only[Fs,ZM,qV]at h;refine⟨o,rfl,λj=>by rw[xQ.2 j]at h;exact absurd h.1.1.1 σ,λe k l=>eO h.1.1.2 e (zC k) l,λd=>?_,λd=>?_,h.2⟩;subst d;have:=h.1.2;simp only[ZM,qV]at this;exact this;subst d;exact h.1.2
def pz{i p q l}(h:(i,p,q)∈l):i∈X1 l:=Jw.2 ⟨_,h,rfl⟩
def yL.next{L f R}(Q:Ta f){H Z i p r done E s s' y t a w m}(I:yL nc P L f R base nt w0 H Z ((i,p,none)::r) done E s y a w)
  {o:Oper} (x:f[i]?=some o) (v:Value) (T:Tr s.h y w s'.h t m) (O:Rel Z base nt s' t (a.put o.dst v) m) (N:Vn Z base w0 s'.h t m) (M:∀d,o.dst≠some d->get s.fr d=.undef->get s'.fr d=.undef) :
  yL nc P L f R base nt w0 H Z r (i::done) (E.setIfInBounds i true) s' t (a.put o.dst v) m:=by
 obtain⟨U,F,Y,W,V,h4,B⟩:=I.head;rw[x]at F;cases F;have Qb:=(W0.1 x).1;have S:∀j p q,(j,p,q)∈r->j≠i:=λj p q c e=>eT B j (pz c) (by rw[e];simp);have C:∀j p q,(j,p,q)∈r->WM f j=true->∀k d,f[j]?=some k->k.dst=some d->o.dst≠some d:=λj p q c n k d l g=>Q j i k o d (S j p q c) n l x g;refine⟨B,λj c g=>?_,λj c=>?_,(I.marks.set Qb).same λj=>?_,λj p b c=>I.late j p b (Js _ c),λj p q c=>I.lp j p q (Js _ c),I.z,λj p b c=>I.z0 j p b (Js _ c),I.eR,λj p q c n k d l g=>?_,O,N,λj p b c=>?_⟩;simp only[QK,q6]at g;have:=I.cover j c g.2;simp only[X1,Jr,QK]at this;rcases this with (h|h)|h;exact absurd h g.1;exact .inl h;exact .inr h;obtain⟨K,u,J⟩:=I.OV j c;simp only[X1,Jr,QK,q6]at u;exact⟨λh=>by rcases QK.1 h with h|h;exact u.1 h;exact K h,u.2,J⟩
 simp only[early,QK,Q3];constructor;rintro (h|h|h);exact .inr (.inl h);exact .inl h;exact .inr (.inr h);rintro (h|h|h);exact .inr (.inl h);exact .inl h;exact .inr (.inr h);exact M d (C j p q c n k d l g) (I.S9 j p q (Js _ c) n k d l g);exact(I.LZ j p b (Js _ c)).step T v λk d l g=>C j p _ c (I.late j p b (Js _ c)) k d l g
def Tr.snoc{h r j t}{w i:World}(T:Tr h j w r t i){b q}(B:w.heap.size<=b)(v):Tr h j w (r++[v]) (t++[some (b,q)]) i where
 Kz:=λc f Qb=>⟨SC (T.Kz c f Qb).1 λq e=>by simp at e;omega,(T.Kz c f Qb).2⟩
 obj:=λl o p d a=>by obtain⟨k,u,g,n,m⟩:=T.obj l o p d a;exact⟨k,u,BP g,BP n,m⟩
 shape:=λl o k b q d s x a c el f=>by obtain⟨z,y,g,n,m⟩:=T.obj l o _ d a;rw[BP g]at s;cases s;exact T.shape l o _ b q d g x a c el f
def yL.pn{L g R}(hD:Ta g)(Q6:base<=w0.w.heap.size){m Z i b p r done Zz s k a w}(I:yL nc P L g R base nt w0 m Z ((i,p,some b)::r) done Zz s k a w)
  {o:Oper} (O:g[i]?=some o) {y:Ob} {mk:Nat->D} (hL:Hz P o y mk) (W:Zr nt o.dst=true) :
  ∃Z',yL nc P L g R base nt w0 m Z' r (i::done) Zz ⟨Zi s.fr o.dst (mk s.h.length),s.h++[y]⟩ (k++[some (b,0)]) a w:=by
 obtain⟨o',ZR,S,h2,h3,h4,Y⟩:=I.head;rw[O]at ZR;cases ZR;have QE:∀j p q,(j,p,q)∈r->j≠i:=λj p q f e=>eT Y j (pz f) (by rw[e];simp);have OW:=I.late i p b (Jo ..);have eV:∀j p q,(j,p,q)∈r->WM g j=true->∀x d,g[j]?=some x->x.dst=some d->o.dst≠some d:=λj p q f F x d H n=>hD j i x o d (QE j p q f) F H O n;obtain⟨o1,d,J,ρ,v,obj,g1,g2,g3,g4,g5,g6⟩:=(I.LZ i p b (Jo ..)).run;rw[O]at g1;cases g1;have OX:=(I.LZ i p b (Jo ..)).XL;have OY:=(I.LZ i p b (Jo ..)).low;obtain⟨C,a0,N,B,M⟩:=hL;have K:=N ρ J;rw[g3]at K;simp only[Result.ok.injEq,Next.value.injEq]at K;obtain⟨rfl,U⟩:=K;have DJ:obj=C:=by have e1:=heap_alloc_new J obj;have e2:=heap_alloc_new J C;rw[U,e2]at e1;exact(Oq e1).symm
 subst DJ;have eW:d<nt:=by rw[g2]at W;exact vE W
 have hz:∀c,Z c↔m c/\c≠b/\c ∉ blocks r:=λc=>by rw[I.z c];simp only[blocks,QK,q6]
 have B7:b ∉ blocks r:=by have:=I.eR;simp only[blocks]at this;exact(Z6.1 this).1
 have V:m b:=I.z0 i p b (Jo ..);have Yk:∀c,free Z k c->free (λc=>m c/\c ∉ blocks r) (k++[some (b,0)]) c:=λc u=>⟨⟨((hz c).1 u.1).1,((hz c).1 u.1).2.2⟩,SC u.2 λq e=>by simp at e;exact((hz c).1 u.1).2.1 e.1.symm⟩;have E:k.length=s.h.length:=I.rel.o.len;have hx:=B (λc=>m c/\c ∉ blocks r) (s.h++[y]) (k++[some (b,0)]) w b g5;have hO:=I.rel.o.pn Yk OX (J5 Q6 OY) hx;have hv:=M (λc=>m c/\c ∉ blocks r) (s.h++[y]) (k++[some (b,0)]) w s.h.length b σ (by rw[<-E];simp);have B8:∀{d v},QF Z s.h k w d v->QF (λc=>m c/\c ∉ blocks r) (s.h++[y]) (k++[some (b,0)]) w d v:=λhr=>hr.OT (λc u _=>⟨Yk c u,rfl⟩) (λ_ _ _ a b=>⟨BP a,BP b⟩) (λ_ _ _ _=>rfl);refine⟨λc=>m c/\c ∉ blocks r,Y,λj f n=>?_,λj f=>?_,I.marks.same λj=>?_,λj p b f=>I.late j p b (Js _ f),λj p q f=>I.lp j p q (Js _ f),λc=>Iff.rfl,λj p b f=>I.z0 j p b (Js _ f),?_,λj p q f F x d H n=>?_,⟨I.rel.nt,I.rel.defers,λt=>?_,hO⟩,⟨I.since.1,?_,⟨λc u=>?_,λl c q e h0=>?_⟩⟩,λj p b' f=>?_⟩;simp only[QK,q6]at n;have:=I.cover j f n.2;simp only[X1,Jr,QK]at this;rcases this with (h|h)|h;exact absurd h n.1;exact .inl h;exact .inr h;obtain⟨N,B,M⟩:=I.OV j f;simp only[X1,Jr,QK,q6]at B;exact⟨λh=>by rcases QK.1 h with h|h;exact B.1 h;exact N h,B.2,M⟩
 simp only[early,QK,Q3];constructor;rintro ((h|h)|h);exact .inr (.inl h);exact .inl h;exact .inr (.inr h);rintro (h|h|h);exact .inl (.inr h);exact .inl (.inl h);exact .inr h;have:=I.eR;simp only[blocks]at this;exact(Z6.1 this).2;rw[eQ (eV j p q f F x d H n)];exact I.S9 j p q (Js _ f) F x d H n;rw[g2,Zi,E9];by_cases e:t=d;rw[Qe e,e,g6 eW,<-g4];exact hv;rw[Qd e];exact B8 (I.rel.fr t);exact I.since.2.1.snoc OY y;exact(I.z c).1 (I.since.2.2.new c u) |> λh=>⟨h.1,λQ=>h.2 (by simp only[blocks,QK];exact .inr Q)⟩;rcases Yz e with S|⟨S,Jy⟩;exact(I.z c).1 (I.since.2.2.own l c q S h0) |> λh=>⟨h.1,λQ=>h.2 (by simp only[blocks,QK];exact .inr Q)⟩;simp at Jy;obtain⟨rfl,rfl⟩:=Jy;exact⟨V,B7⟩;have T:=I.LZ j p b' (Js _ f);exact⟨T.run,SC T.XL λq e=>by simp at e;exact B7 (by rw[e.1];exact Ft.2 ⟨j,p,f⟩),T.low⟩
def L6{j b:Nat}{p:Bool}{c a:List En}{x:En}(h:x∈c++(j,p,some b)::a):x∈c++(j,p,none)::a\/x=(j,p,some b):=by rcases Q3.1 h with h|h;exact .inl (Q3.2 (.inl h));rcases QK.1 h with h|h;exact .inr h;exact .inl (Q3.2 (.inr (Js _ h)))
def Qd1{j b:Nat}{p:Bool}{d a:List En}{i c:Nat}{q:Bool}(h:(i,q,some c)∈d++(j,p,none)::a):(i,q,some c)∈d++(j,p,some b)::a:=by rcases Q3.1 h with h|h;exact Q3.2 (.inl h);rcases QK.1 h with h|h;cases h;exact Q3.2 (.inr (Js _ h))
def yL.exec{L:Jt}{n:Array Oper}{R:List Nat}(hD:Ta n)(Q6:base<=w0.w.heap.size){x Z:Nat->Prop}{j:Nat}{p:Bool}{m g:List En}{done:List Nat}{U:Array Bool}{s:St}{r:List Pl}{a:Act}{w:World}(I:yL nc P L n R base nt w0 x Z (m++(j,p,none)::g) done U s r a w)
  {o:Oper} (F:n[j]?=some o) (B:WM n j=true) {d:Nat} (y:o.dst=some d) {v:Value} {f:Obj} (Zh:(execOp a.eval o).run P w=.ok (.value v) (w.alloc f)) (Q:∀i p' q,(i,p',q)∈m++(j,p,none)::g->q≠none->i≠j) :
  ∃Z',yL nc P L n R base nt w0 x Z' (m++(j,p,some w.heap.size)::g) done (U.setIfInBounds j true) s r (a.put o.dst v) (w.alloc f):=by
 have Qb:=(W0.1 F).1;have N:(j,p,none)∈m++(j,p,none)::g:=Q3.2 (.inr (Jo ..));have e:∀k,k<w.heap.size->(w.alloc f).heap[k]? = w.heap[k]? := λk hk=>xK w f k hk;have Y:(w.alloc f).heap[w.heap.size]?=some f:=heap_alloc_new w f;have JO:w.heap.size<(w.alloc f).heap.size:=vq Y;have zU:base<=w.heap.size:=J5 Q6 I.since.1.size;have AT:∀c,c∈blocks (m++(j,p,none)::g)->c<w.heap.size:=λc C=>by obtain⟨i,q,hq⟩:=Ft.1 C;obtain⟨_,_,_,_,_,_,_,_,_,_,h5,_⟩:=(I.LZ i q c hq).run;exact vq h5
 have B7:w.heap.size ∉ blocks (m++(j,p,none)::g):=λh=>by have:=AT _ h;omega
 have eX:x w.heap.size:=((I.z _).1 (I.since.2.2.new _ (Qv _))).1;have Vb:∀c,c∈blocks (m++(j,p,some w.heap.size)::g)↔c∈blocks (m++(j,p,none)::g)\/c=w.heap.size:=λc=>by rw[Ft,Ft];constructor;rintro⟨i,q,h⟩;rcases L6 h with h|h;exact .inl ⟨i,q,h⟩;cases h;exact .inr rfl;rintro (⟨i,q,h⟩|rfl);exact⟨i,q,Qd1 h⟩;exact⟨j,p,Q3.2 (.inr (Jo ..))⟩
 have O:∀c,(x c/\c ∉ blocks (m++(j,p,some w.heap.size)::g))↔Z c/\c≠w.heap.size:=λc=>by rw[I.z c,Vb c,q6,and_assoc]
 have V:∀c,free Z r c->c<w.heap.size->free (λc=>x c/\c ∉ blocks (m++(j,p,some w.heap.size)::g)) r c/\(w.alloc f).heap[c]? = w.heap[c]? := λc C Qb=>⟨⟨(O c).2 ⟨C.1,ω⟩,C.2⟩,e c Qb⟩;have B8:∀{d v},QF Z s.h r w d v->QF (λc=>x c/\c ∉ blocks (m++(j,p,some w.heap.size)::g)) s.h r (w.alloc f) d v:=λhr=>hr.OT V (λ_ _ _ a b=>⟨a,b⟩) (λl b q hp=>e b (I.rel.o.lt hp).1);have T:Tr s.h r w s.h r (w.alloc f):=Tr.ext I.rel.o e;refine⟨λc=>x c/\c ∉ blocks (m++(j,p,some w.heap.size)::g),?_,?_,?_,(I.marks.set Qb).same λi=>?_,λi q b h=>?_,λi q u h B=>?_,λc=>Iff.rfl,λi q b h=>?_,pq _ B7 I.eR,λi q u h W E M J H=>?_,⟨by rw[y];simp[Act.put,I.rel.nt],by rw[y];exact I.rel.defers,λt=>?_,I.rel.o.OT V e⟩,⟨I.since.1.trans (Fe zU f),I.since.2.1.trans T,⟨λc C=>(O c).2 ⟨I.since.2.2.new c ω,ω⟩,λl c q K h0=>(O c).2 ⟨I.since.2.2.own l c q K h0,by have:=(I.rel.o.lt K).1;omega⟩⟩⟩,λi q b h=>?_⟩;have:=I.sched;simpa[YX] using this;have:=I.cover;simpa[X1] using this;have:=I.OV;simpa[X1] using this;simp only[QK,Q3,LY];constructor;rintro (rfl|⟨q,b,h⟩|h);exact .inl ⟨p,_,.inr (.inl rfl)⟩;exact .inl ⟨q,b,by have:=Qd1 (b:=w.heap.size) (Q3.2 (h.imp id QK.2));simpa using this⟩;exact .inr h;rintro (⟨q,b,h⟩|h);rcases L6 (Q3.2 (h.imp id QK.2)) with h|h;exact .inr (.inl ⟨q,b,by simpa using h⟩);cases h;exact .inl rfl;exact .inr (.inr h);rcases L6 h with h|h;exact I.late i q b h;cases h;exact B;rcases L6 h with h|h;exact I.lp i q u h B;cases h;exact I.lp j p none N B;rcases L6 h with h|h;exact I.z0 i q b h;cases h;exact eX;rcases L6 h with h|h;exact I.S9 i q u h W E M J H;cases h;exact I.S9 j p none N W E M J H;by_cases S:t=d;have:=I.S9 j p none N B o d F y;rw[S,this];exact .cl _ _ (.undef _);rw[QdY (by rw[y];exact λh=>S (Oq h).symm)];exact B8 (I.rel.fr t);rcases L6 h with h|h;refine(I.LZ i q b h).step T v λE M J H=>?_;exact hD i j E o M (Q i q (some b) h σ) (I.late i q b h) J F H;cases h;refine⟨⟨o,d,w,a.eval,v,f,F,y,Zh,rfl,Y,λhn=>?_⟩,λl q K=>?_,I.since.1.size⟩;have:d<a.tmps.size:=by rw[I.rel.nt];exact hn
 simp[Act.put,y,yw,this];have:=(I.rel.o.lt K).1;omega
def Fw(nc:List Nat)(P:Program)(base nt:Nat)(w0:Start)(a:Array Oper)(K:St->Prop):Nat->List Nat->List Nat->St->Prop
 | 0,_,_,s=>K s
 | n+1,R,done,s=>∀i∈R,∀o,a[i]?=some o->vG done o.after.toList=false->AX P base nt w0 (Fw nc P base nt w0 a K n (R.erase i) (i::done)) [(false,qB (Vh i nc) o,guardOf a o)] s
def A3(a:Array Oper):List Nat->List Nat->Bool
 | [],_=>true
 | i::r,done=>(match a[i]? with
  | some o=>!vG done o.after.toList
  | none=>false)&&A3 a r (i::done)
def pA{done b}(h:∀j∈done,j∈b):∀{l:List Edge},vG done l=false->vG b l=false
 | [],_=>rfl
 | e::r,a=>by simp only[vG,EP,GU,Bool.not_eq_false']at a ⊢;exact⟨a.1.imp id λk=>xQ.2 (h _ (xQ.1 k)),pA h a.2⟩
def Qd2{a}:∀{R done e:List Nat},(∀j∈done,j∈e)->A3 a R done=true->A3 a R e=true
 | [],_,_,_,_=>rfl
 | i::r,done,e,h,d=>by
  simp only[A3,ZM]at d ⊢;refine⟨?_,Qd2 (λj c=>by rcases QK.1 c with rfl|c;exact Jo ..;exact Js _ (h j c)) d.2⟩
  have b:=d.1;cases f:a[i]? with
  | none=>rw[f]at b;cases b
  | some o=>rw[f]at b;simp only[qV]at b ⊢;exact pA h b
def Qd3{a j}:∀{R done:List Nat},A3 a R done=true->A3 a (R.erase j) (j::done)=true
 | [],_,_=>rfl
 | i::r,done,h=>by
  simp only[A3,ZM]at h;by_cases d:i=j;subst d;rw[List.erase_cons_head];exact h.2;rw[List.erase_cons_tail (zC d)];simp only[A3,ZM];refine⟨?_,Qd2 (λk b=>?_) (Qd3 (j:=j) h.2)⟩;have h1:=h.1;cases c:a[i]? with
  | none=>rw[c]at h1;cases h1
  | some o=>rw[c]at h1;simp only[qV]at h1 ⊢;exact pA (λk b=>Js _ b) h1
  simp only[QK]at b ⊢;rcases b with h1|h1|h1;exact .inr (.inl h1);exact .inl h1;exact .inr (.inr h1)
def Qqb{c:Array Oper}(W:base<=w0.w.heap.size){F Z i o}(u:c[i]?=some o){s:St}{k a w}(r:Rel Z base nt s k a w)(b:Vn Z base w0 s.h k w)
  (h:AX P base nt w0 F [(false,qB (Vh i nc) o,guardOf c o)] s):wpOp P c (λ_ _ _=>False) i (λm f=>xR nc c i w f/\∃g j,F g/\Rel Z base nt g j m f/\Vn Z base w0 g.h j f) a w:=by
 have skip:∀(e:St),e.h=s.h->Rel Z base nt e k a w->XM (guardOf c o) a.tmps=false->Zr nt (qB (Vh i nc) o).dst=true->F ⟨Zi e.fr (qB (Vh i nc) o).dst (.raw Go.undef),e.h⟩->_:=λe H z B N E=>by have n:YieldsIf P c (λ_:World=>True) o Go.undef a:=.inr ⟨by rw[OJ];exact B,rfl⟩;have V:Rel Z base nt ⟨Zi e.fr o.dst (.raw Go.undef),e.h⟩ k (a.put o.dst Go.undef) w:=z.skip N;exact n.wpOp (P:=P) (Q:=λ_ _ _=>False) (K:=λm f=>xR nc c i w f/\∃g j,F g/\Rel Z base nt g j m f/\Vn Z base w0 g.h j f) u trivial ⟨by rw[LW u];exact .ext (Ext.refl _),_,k,E,V,by rw[show (⟨Zi e.fr o.dst (.raw Go.undef),e.h⟩:St).h=s.h from H];exact b⟩
 have J:∀(e:St),e.h=s.h->Rel Z base nt e k a w->XM (guardOf c o) a.tmps=true->XA P base nt w0 false (qB (Vh i nc) o) F e->wpOp P c (λ_ _ _=>False) i (λm f=>xR nc c i w f/\∃g j,F g/\Rel Z base nt g j m f/\Vn Z base w0 g.h j f) a w:=λe H z B E=>by unfold wpOp;simp only[u,OJ,B,Vu];refine .inl ?_;have:=E.ae W Z trivial k a w z (by rw[H];exact b);rw[QdV]at this;refine Oper.wp_mono (λm f O=>?_) this;obtain⟨R,d,h',j,v,S,M,U,T,rfl⟩:=O;exact⟨by rw[LW u];exact R,_,j,S,M,U⟩
 simp only[AX]at h;split at h;rename_i l;exact J s rfl r (by rw[l];rfl) h;rename_i x l;exact skip s rfl r (by rw[l];rfl) h.1 h.2;rename_i t x l;split at h;rename_i y n;have p:=r.fr t;rw[n]at p;have C:=JI p;have I:=pc C;by_cases q:y=x;refine J ⟨put s.fr t (.raw (.bool x)),s.h⟩ rfl (r.tell (t:=t) (d:=.raw (.bool x)) (by rw[C,q];exact .cl _ _ (.raw _))) ?_ (h.1 q);rw[l];simp[XM,I,q];have L:y=(!x):=by cases x<;>cases y<;>simp_all
 have:=h.2 L;refine skip ⟨put s.fr t (.raw (.bool !x)),s.h⟩ rfl (r.tell (t:=t) (d:=.raw (.bool (!x))) (by rw[C,L];exact .cl _ _ (.raw _))) ?_ this.1 this.2;rw[l];simp[XM,I,q];rename_i Y n;have p:=r.fr t;rw[n]at p;refine skip s rfl r ?_ h.1 h.2;rw[l];simp[XM,pe (JI p)];exact h.elim
def pB{c:Array Oper}{K}(J:base<=w0.w.heap.size){Z}:∀(n:Nat) (R done:List Nat) (l:Array Bool) (s:St) (f:List Pl) (a:Act) (w:World),R.length=n->Marks c l done->(∀j,j<c.size->j ∉ done->j∈R)->(∀j∈R,j ∉ done)->R.Nodup->A3 c R done=true ->
  Rel Z base nt s f a w->Vn Z base w0 s.h f w->Fw nc P base nt w0 c K n R done s->AY P c (λa w=>∃s f,K s/\Rel Z base nt s f a w/\Vn Z base w0 s.h f w) (xR nc c) n l a w
 | 0,R,done,l,s,f,a,w,t,M,y,B,C,q,r,b,h=>by have:R=[]:=Sq.1 t;subst this;refine⟨nU.2 λj m=>?_,s,f,h,r,b⟩;obtain⟨g,o,d,_⟩:=mem_ready.1 m;have Qb:=(W0.1 d).1;have:=y j Qb ((M.get j Qb).1 g);cases this
 | n+1,R,done,l,s,f,a,w,t,M,y,B,C,q,r,b,h=>by
  have ready:∀j o,c[j]?=some o->j ∉ done->vG done o.after.toList=false->j∈Region.ready .any c l:=λj o d m v=>by have Qb:=(W0.1 d).1;exact mem_ready.2 ⟨(M.get j Qb).2 m,o,d,λe x z=>(M.get' e.on).2 ⟨eO v e (zC x) z,M.lt _ (eO v e (zC x) z)⟩⟩
  refine⟨λe=>?_,λj m=>?_⟩;cases R with
  | nil=>cases t
  | cons i rr=>simp only[A3,ZM]at q;have g:=q.1;split at g;rename_i o d;have:=ready i o d (B i (Jo ..)) (zC g);rw[e]at this;cases this;cases g
  .obtain⟨g,o,d,JR⟩:=mem_ready.1 m;have Qb:=(W0.1 d).1;have F:=(M.get j Qb).1 g;have I:=y j Qb F;have v:vG done o.after.toList=false:=by cases z:vG done o.after.toList;rfl;obtain⟨e,x,H,Fv⟩:=QdS z;exact absurd ((M.get' e.on).1 (JR e (zC x) H)).1 Fv
   refine wpOp_mono (λW L U=>?_) (Qqb J d r b (h j I o d v));obtain⟨T,N,Y,Q,O,V⟩:=U;refine⟨T,pB J n (R.erase j) (j::done) (l.setIfInBounds j true) N Y W L (by rw[List.length_erase_of_mem I,t];rfl) (M.set Qb) (λk u p=>?_) (λk u p=>?_) (C.erase _) (Qd3 q) O V Q⟩;simp only[QK,q6]at p;exact(List.mem_erase_of_ne p.1).2 (y k u p.2);have E:=List.mem_of_mem_erase u;rcases QK.1 p with rfl|S;exact(C.not_mem_erase) u;exact B k E S
def Qqf{L}(b1:Jm P L){c:Array Oper}{R U:List Nat}{K}(OP:Region.noSelect c=true)(Q6:base<=w0.w.heap.size)(hD:Ta c)(hL:∀j o,c[j]?=some o->WM c j=true->(∃ob mk,Hz P o ob mk)/\∃d,o.dst=some d){H}(a2:R.Nodup)(a1:A3 c R U=true):
  ∀(m:Nat) (l:List En) (done:List Nat) (E:Array Bool) (s:St) (g:List Pl) (a:Act) (w:World) (Z:Nat->Prop),l.length+YY l<=m->yL nc P L c R base nt w0 H Z l done E s g a w->(∀j,j∈U↔j∈X1 l\/j∈done)->AX P base nt w0 (Fw nc P base nt w0 c K R.length R U) (Vo nc c (YX l)) s ->
   AY P c (λa w=>∃s g,K s/\Rel H base nt s g a w/\Vn H base w0 s.h g w) (xR nc c) (R.length+YY l) E a w:=by
 intro m;induction m with
 | zero=>
  intro l done E s g a w Z Y I Td h;cases l with
  | cons x r=>simp at Y
  | nil=>
   have hZ:Z=H:=funext λb=>propext (by rw[I.z b];simp[blocks]);subst hZ;have L7:∀j,j∈U↔j∈done:=λj=>by rw[Td j];simp[X1]
   refine pB Q6 R.length R U E s g a w rfl (I.marks.same λj=>by rw[L7 j];simp[early]) (λj B C=>?_) (λj B=>by rw[L7 j];exact(I.OV j B).1) a2 a1 I.rel I.since h;have:=I.cover j B (λh=>C ((L7 j).2 h));simpa[X1] using this
 | succ m ih=>
  intro l done E s g a w Z Y I Td h;cases l with
  | nil=>
   have hZ:Z=H:=funext λb=>propext (by rw[I.z b];simp[blocks]);subst hZ;have L7:∀j,j∈U↔j∈done:=λj=>by rw[Td j];simp[X1]
   refine pB Q6 R.length R U E s g a w rfl (I.marks.same λj=>by rw[L7 j];simp[early]) (λj B C=>?_) (λj B=>by rw[L7 j];exact(I.OV j B).1) a2 a1 I.rel I.since h;have:=I.cover j B (λh=>C ((L7 j).2 h));simpa[X1] using this
  | cons x r=>
   obtain⟨i,p,q⟩:=x;obtain⟨o,J,Ji,a4,b0,a9,AO⟩:=I.head;have Qb:=(W0.1 J).1;have zV:Vo nc c (YX ((i,p,q)::r))=(p,qB (Vh i nc) o,guardOf c o)::Vo nc c (YX r):=by simp[Vo,YX,J]
   rw[zV]at h;have Fu:∀j∈early ((i,p,q)::r),WM c j=true:=λj B=>by obtain⟨p',b,S⟩:=LY.1 B;exact I.late j p' b S
   have QE:∀j p q,(j,p,q)∈r->j≠i:=λj p q B e=>eT AO j (pz B) (by rw[e];simp);have fb:∀j,j∈U↔j∈X1 r\/j∈i::done:=λj=>by rw[Td j];simp only[X1,Jr,QK];constructor;rintro ((h|h)|h);exact .inr (.inl h);exact .inl h;exact .inr (.inr h);rintro (h|h|h);exact .inl (.inr h);exact .inl (.inl h);exact .inr h
   cases q with
   | some b=>
    have OW:=I.late i p b (Jo ..);obtain⟨g1,g2,_⟩:=eU J OW;have hp:=I.lp i p _ (Jo ..) OW;subst hp;have hg:guardOf c o=none:=by simp[guardOf,g2]
    rw[hg]at h;simp only[AX,XA]at h;rw[show zd (qB (Vh i nc) o)=true from g1]at h;obtain⟨ob,mk,h1,h2,h3⟩:=h;obtain⟨Z',I'⟩:=I.pn hD Q6 J (show Hz P o ob mk from h1) h2;have:=ih r (i::done) E _ _ a w Z' (by simp only[Kx,YY]at Y;omega) I' fb h3;exact this
   | none=>
    have pC:i ∉ early ((i,p,none)::r)++done:=λY=>by rcases Q3.1 Y with h1|h1;obtain⟨p',b,S⟩:=LY.1 h1;rcases QK.1 S with h2|h2;cases h2;exact QE _ _ _ h2 rfl;exact Ji h1
    have pD:i∈Region.ready .any c E:=mem_ready.2 ⟨(I.marks.get i Qb).2 pC,o,J,λe u S=>(I.marks.get' e.on).2 ⟨Q3.2 (.inr (a4 e u S)),I.marks.lt _ (Q3.2 (.inr (a4 e u S)))⟩⟩;have OB:r.length+YY r<=m:=by simp only[Kx,YY]at Y;omega
    have first:p=true->∀(f:St) (v:Value),f.h=s.h->YieldsIf P c (λn=>(still L o=true\/Ext w n)\/(DH o=true/\kj w n)) o v a ->
      Rel Z base nt f g (a.put o.dst v) w->(∀d,o.dst≠some d->get s.fr d=.undef->get f.fr d=.undef)->AX P base nt w0 (Fw nc P base nt w0 c K R.length R U) (Vo nc c (YX r)) f->AY P c (λa w=>∃s g,K s/\Rel H base nt s g a w/\Vn H base w0 s.h g w) (xR nc c) (R.length+YY r+1) E a w:=by
     intro hp f v hh O W hu Q;have I':=I.next hD J v (s':=f) (by rw[hh];exact Tr.refl _ _ _) W (by rw[hh];exact I.since) hu;have fc:=ih r (i::done) (E.setIfInBounds i true) f g (a.put o.dst v) w Z OB I' fb Q;refine Qp4 (λw=>by rw[LW J];exact .ext (Ext.refl _)) J (Region.noSelect_spec OP) _ E a w (.inl (.inr (Ext.refl _))) (λj oj B wP a6=>?_) pD O fc;have Te:=(W0.1 B).1;have Tf:=(I.marks.get j Te).1 a6;have Tg:=I.cover j Te λC=>Tf (Q3.2 (.inr C));simp only[X1,Jr,QK]at Tg;have V8:∃y∈(YX r).map (λN=>(N.1,N.2,c[N.1]?))++LX c R,y.1=j/\y.2.2=c[j]? := by rcases Tg with (h|h)|h;exact absurd h wP;obtain⟨y,jy,q8⟩:=Jw.1 h;exact⟨(y.1,y.2.1,c[y.1]?),Q3.2 (.inl (Jw.2 ⟨(y.1,y.2.1),Jw.2 ⟨y,jy,rfl⟩,rfl⟩)),q8,by rw[q8]⟩;exact⟨(j,false,c[j]?),Q3.2 (.inr (Jw.2 ⟨j,h,rfl⟩)),rfl,rfl⟩
     obtain⟨y,jy,q8,b2⟩:=V8;have:=QdZ I.marks Fu (r:=(YX r).map (λN=>(N.1,N.2,c[N.1]?))++LX c R) (λx hx=>by rcases Q3.1 hx with hx|hx;obtain⟨z,_,rfl⟩:=Jw.1 hx;rfl;obtain⟨z,_,rfl⟩:=Jw.1 hx;rfl) (b0 hp).2 y jy oj (by rw[q8];exact B)
     rw[q8]at this;refine this.imp id λh=>⟨λw1 w2 hc hs=>?_,h.2⟩;rw[LW B]at hc;rcases h.1 with (h1|h1)|h1;have u:=hc.calm (by rw[Qp6];simp[h1.1,h1.2]);rcases hs with (hs|hs)|hs;exact .inl (.inl hs);exact .inl (.inr (hs.trans u));exact .inr ⟨hs.1,hs.2.trans (.ext u)⟩;exact .inl (.inl h1);have u:=hc.ins (by simpa[DI,qB] using h1.2);rcases hs with (hs|hs)|hs;exact .inl (.inl hs);exact .inr ⟨h1.1,(kj.ext hs).trans u⟩;exact .inr ⟨hs.1,hs.2.trans u⟩
    have V:p=false->wpOp P c (λ_ _ _=>False) i (λa' n=>xR nc c i w n/\AY P c (λa w=>∃s g,K s/\Rel H base nt s g a w/\Vn H base w0 s.h g w) (xR nc c) (R.length+YY r) (E.setIfInBounds i true) a' n) a w ->
      AY P c (λa w=>∃s g,K s/\Rel H base nt s g a w/\Vn H base w0 s.h g w) (xR nc c) (R.length+YY r+1) E a w:=by
     intro hp hi;refine⟨λe=>(by rw[e]at pD;cases pD),λj B=>?_⟩;by_cases wP:j=i;subst wP;exact hi
     .obtain⟨eL,oj,Vc,JR⟩:=mem_ready.1 B;have Te:=(W0.1 Vc).1;have Tf:=(I.marks.get j Te).1 eL;have Tg:=I.cover j Te λC=>Tf (Q3.2 (.inr C));simp only[X1,Jr,QK]at Tg;have a3:=λx hx=>QdX (r:=(YX r).map (λN=>(N.1,N.2,c[N.1]?))++LX c R) (λx hx=>by rcases Q3.1 hx with hx|hx;obtain⟨z,_,rfl⟩:=Jw.1 hx;rfl;obtain⟨z,_,rfl⟩:=Jw.1 hx;rfl) (a9 hp) x hx
      have a0:OU c done i oj.after.toList=true->False:=λh1=>by obtain⟨e,u,S,Fv,Fx⟩:=QdW h1;have h2:=((I.marks.get' e.on).1 (JR e (zC u) S)).1;rcases Q3.1 h2 with h3|h3;rcases Fx with h4|h4;rw[Fu _ h3]at h4;cases h4;exact pC (Q3.2 (.inl (by rw[<-h4];exact h3)));exact Fv h3
      have fa:j ∉ R:=λh=>by rcases a3 (j,false,c[j]?) (Q3.2 (.inr (Jw.2 ⟨j,h,rfl⟩))) oj Vc with h1|h1;have h9:WM c j=true:=h1;rw[(I.OV j h).2.2]at h9;cases h9;exact a0 h1
      obtain⟨y,jy,q8⟩:=Jw.1 ((Tg.resolve_right fa).resolve_left wP);obtain⟨M,pj,qj⟩:=y;obtain rfl:M=j:=q8;have a7:qj=none:=by
       cases qj with
       | none=>rfl
       | some b=>exact absurd (Q3.2 (.inl (LY.2 ⟨pj,b,Js _ jy⟩))) Tf
      subst a7;have Th:WM c M=true:=by rcases a3 (M,pj,c[M]?) (Q3.2 (.inl (Jw.2 ⟨(M,pj),Jw.2 ⟨_,jy,rfl⟩,rfl⟩))) oj Vc with h1|h1;exact h1;exact(a0 h1).elim
      obtain⟨g1,g2,_⟩:=eU Vc Th;obtain⟨⟨ob,mk,obj,a5,k1,_⟩,d,C⟩:=hL M oj Vc Th;obtain⟨F,r2,W⟩:=List.append_of_mem jy;have hl:(i,p,none)::r=((i,p,none)::F)++(M,pj,none)::r2:=by rw[W];rfl
      have I0:=I;rw[hl]at I0;obtain⟨Z',I'⟩:=I0.exec hD Q6 Vc Th C (k1 a.eval w) (λi' p' q' Y hq e=>by
       subst e;rw[<-hl]at Y;cases q' with
       | none=>exact hq rfl
       | some b=>exact Tf (Q3.2 (.inl (LY.2 ⟨p',b,Y⟩))))
      have hc:YY r=YY (((i,p,none)::F)++(M,pj,some w.heap.size)::r2):=by have:=po (j:=M) (p:=pj) (b:=w.heap.size) (l2:=r2) ((i,p,none)::F);rw[<-hl]at this;simp only[YY]at this;omega
      have pE:YX (((i,p,none)::F)++(M,pj,some w.heap.size)::r2)=YX ((i,p,none)::r):=by rw[hl];simp[YX]
      have fc:=ih _ done (E.setIfInBounds M true) s g (a.put oj.dst (a5 w.heap.size)) (w.alloc obj) Z' (by
       have h1:(((i,p,none)::F)++(M,pj,some w.heap.size)::r2).length=r.length+1:=by rw[W];simp
       have h2:r.length+1+(YY r+1)<=m+1:=Y;rw[h1,<-hc];omega) I' (λk=>by rw[Td k];rw[hl];simp[X1]) (by rw[pE,zV];exact h)
      rw[<-hc]at fc;unfold wpOp;simp only[Vc];have hw:Region.wanted oj (yielded c a.tmps)=true:=by simp[Region.wanted,g2]
      rw[Qe hw];refine .inl ?_;unfold Oper.wp;rw[k1 a.eval w];simp only[Oper.upon_value];exact⟨by rw[LW Vc];exact .ext λk Q=>xK w obj k Q,fc⟩
    have skip:∀(f:St),f.h=s.h->Rel Z base nt f g a w->(∀d,get s.fr d=.undef->get f.fr d=.undef)->XM (guardOf c o) a.tmps=false->Zr nt (qB (Vh i nc) o).dst=true->AX P base nt w0 (Fw nc P base nt w0 c K R.length R U) (Vo nc c (YX r)) ⟨Zi f.fr (qB (Vh i nc) o).dst (.raw Go.undef),f.h⟩ ->
      AY P c (λa w=>∃s g,K s/\Rel H base nt s g a w/\Vn H base w0 s.h g w) (xR nc c) (R.length+YY r+1) E a w:=by
     intro f hh F hu hw ht Q;have O:YieldsIf P c (λn=>(still L o=true\/Ext w n)\/(DH o=true/\kj w n)) o Go.undef a:=.inr ⟨by rw[OJ];exact hw,rfl⟩;have ZK:Rel Z base nt ⟨Zi f.fr o.dst (.raw Go.undef),f.h⟩ g (a.put o.dst Go.undef) w:=F.skip ht;have zW:∀d,o.dst≠some d->get s.fr d=.undef->get (Zi f.fr o.dst (.raw Go.undef)) d=.undef:=λd C h=>by rw[eQ C];exact hu d h
     cases p with
     | true=>exact first rfl ⟨Zi f.fr o.dst (.raw Go.undef),f.h⟩ Go.undef hh O ZK zW Q
     | false=>refine V rfl (O.wpOp J (.inl (.inr (Ext.refl _))) ⟨by rw[LW J];exact .ext (Ext.refl _),?_⟩);have I':=I.next hD J Go.undef (s':=⟨Zi f.fr o.dst (.raw Go.undef),f.h⟩) (by rw[show (⟨Zi f.fr o.dst (.raw Go.undef),f.h⟩:St).h=s.h from hh];exact Tr.refl _ _ _) ZK (by rw[show (⟨Zi f.fr o.dst (.raw Go.undef),f.h⟩:St).h=s.h from hh];exact I.since) zW;exact ih r (i::done) _ _ g _ w Z OB I' fb Q
    have go:∀(f:St),f.h=s.h->Rel Z base nt f g a w->(∀d,get s.fr d=.undef->get f.fr d=.undef)->XM (guardOf c o) a.tmps=true->XA P base nt w0 p (qB (Vh i nc) o) (AX P base nt w0 (Fw nc P base nt w0 c K R.length R U) (Vo nc c (YX r))) f ->
      AY P c (λa w=>∃s g,K s/\Rel H base nt s g a w/\Vn H base w0 s.h g w) (xR nc c) (R.length+YY r+1) E a w:=by
     intro f hh F hu hw Q;cases p with
     | true=>
      obtain⟨d,dB,Ti,ht,Q⟩:=Q;have JR:∃v,QF Z f.h g w d v/\(∀n:World,(∀b,b<w.heap.size->n.heap[b]? = w.heap[b]?)->(execOp a.eval o).run P n=.ok (.value v) n)/\(DH o=true->∀n:World,kj w n->(execOp a.eval o).run P n=.ok (.value v) n):=by cases Tj:DH o;obtain⟨v,hv,Zh⟩:=dB Z g a w F;exact⟨v,hv,Zh,λh=>by cases h⟩;obtain⟨v,hv,Zh⟩:=Ti (by simpa[DH,qB] using Tj) Z g a w F;exact⟨v,hv,λn u=>Zh n (.ext u),λ_=>Zh⟩
      obtain⟨v,hv,Zh,a8⟩:=JR;have O:YieldsIf P c (λn=>(still L o=true\/Ext w n)\/(DH o=true/\kj w n)) o v a:=.inl ⟨by rw[OJ];exact hw,λn u=>u.elim (λu=>u.elim (λhs=>Qp3 b1 hs (Zh w λ_ _=>rfl) n) (λu=>Zh n u)) (λu=>a8 u.1 n u.2)⟩;have r2:Rel Z base nt ⟨Zi f.fr o.dst d,f.h⟩ g (a.put o.dst v) w:=by
       cases C:o.dst with
       | none=>exact F
       | some t=>have ht:Zr nt o.dst=true:=ht;rw[C]at ht;exact F.to (Tr.ext F.o λ_ _=>rfl) F.o (vE ht) hv
      exact first rfl ⟨Zi f.fr o.dst d,f.h⟩ v hh O r2 (λd' C h=>by rw[eQ C];exact hu d' h) Q
     | false=>refine V rfl ?_;unfold wpOp;simp only[J,OJ,hw,Vu];refine .inl ?_;have:=Q.ae Q6 Z trivial g a w F (by rw[hh];exact I.since);rw[QdV]at this;refine Oper.wp_mono (λa' n hq=>?_) this;obtain⟨u,d,h',Qk,v,hF,r',b',T,rfl⟩:=hq;refine⟨by rw[LW J];exact u,?_⟩;have I':=I.next hD J v (s':=⟨Zi f.fr o.dst d,h'⟩) (by rw[hh]at T;exact T) r' b' (λd' C h=>by rw[eQ C];exact hu d' h);exact ih r (i::done) _ _ Qk _ n Z OB I' fb hF
    show AY P c _ (xR nc c) (R.length+YY r+1) E a w;simp only[AX]at h;split at h;rename_i hg;exact go s rfl I.rel (λ_ h=>h) (by rw[hg];rfl) h;rename_i x hg;exact skip s rfl I.rel (λ_ h=>h) (by rw[hg];rfl) h.1 h.2;rename_i t x hg;split at h;rename_i y O;have W:=I.rel.fr t;rw[O]at W;have hv:=JI W;have S:=pc hv;have AZ:∀(e:D) d,get s.fr d=.undef->get (put s.fr t e) d=.undef:=λe d h=>by rw[E9,Qd (λe=>by rw[e,O]at h;cases h)];exact h
    by_cases wF:y=x;refine go ⟨put s.fr t (.raw (.bool x)),s.h⟩ rfl (I.rel.tell (t:=t) (d:=.raw (.bool x)) (by rw[hv,wF];exact .cl _ _ (.raw _))) (AZ _) ?_ (h.1 wF);rw[hg];simp[XM,S,wF];have Hr:y=(!x):=by cases x<;>cases y<;>simp_all
    have:=h.2 Hr;refine skip ⟨put s.fr t (.raw (.bool !x)),s.h⟩ rfl (I.rel.tell (t:=t) (d:=.raw (.bool (!x))) (by rw[hv,Hr];exact .cl _ _ (.raw _))) (AZ _) ?_ this.1 this.2;rw[hg];simp[XM,S,wF];rename_i vs O;have W:=I.rel.fr t;rw[O]at W;refine skip s rfl I.rel (λ_ h=>h) ?_ h.1 h.2;rw[hg];simp[XM,pe (JI W)];exact h.elim
def Qd9:Option Nat->Option Nat->Bool
 | some a,some b=>!Nat.beq a b
 | _,_=>true
def Qea(a:Array Oper):Bool:=(List.range a.size).all λi=>!WM a i || (List.range a.size).all λj=>Nat.beq i j || Qd9 ((a[i]?).bind (·.dst)) ((a[j]?).bind (·.dst))
def Qeb:D->Bool
 | .undef=>true
 | _=>false
def B9(a:Array Oper)(b:List (Nat × D)):Bool:=(List.range a.size).all λi=>!WM a i || (match (a[i]?).bind (·.dst) with|some d=>Qeb (get b d)|none=>true)
def Qec(L:Jt)(a:Array Oper):Bool:=a.toList.all λo=>match o.op with
 | .alloc t=>(ty L t).isSome&&o.dst.isSome
 | .makeMap _ none=>o.dst.isSome
 | _=>true
def fg(a:Array Oper)(l:List (Nat × Bool)):List Nat->Bool
 | []=>true
 | i::r=>!Vh i r&&!Vh i (l.map (·.1))&&!WM a i&&fg a l r
def fh{a}{l:List (Nat × Bool)}:∀{R:List Nat},fg a l R=true->R.Nodup/\∀i∈R,i ∉ l.map (·.1)/\WM a i=false
 | [],_=>⟨List.nodup_nil,σ⟩
 | i::r,h=>by simp only[fg,ZM,qV]at h;obtain⟨⟨⟨e,d⟩,m⟩,k⟩:=h;obtain⟨g,f⟩:=fh k;refine⟨Z6.2 ⟨λb=>(by rw[xQ.2 b]at e;cases e),g⟩,λj c=>?_⟩;rcases QK.1 c with rfl|c;exact⟨λb=>(by rw[xQ.2 b]at d;cases d),m⟩;exact f j c
def DK(nc:List Nat)(L:Jt)(a:Array Oper)(l:List (Nat × Bool))(R:List Nat):Bool:=Region.noSelect a&&Nat.beq (R.length+l.length) a.size&&eN (l.map (·.1)++R) a.size&&Fs nc L a R (l.map λb=>(b.1,b.2,a[b.1]?)) []&&Qea a&&Qec L a&&fg a l R&&A3 a R (l.map (·.1))
def fi(L:Jt)(a:Array Oper)(l:List (Nat × Bool)):Bool:=DK [] L a l []
def Qqm{a}(h:Qea a=true):Ta a:=by intro i j o n d m k e c l b;have g:=jt.1 h i (Ss.2 (W0.1 e).1);rw[k,BI,GV]at g;have f:=jt.1 g j (Ss.2 (W0.1 c).1);simp only[e,c,cF,l,b,Qd9,Om,BI,Bool.or_false,Wz]at f;exact m f
def Qqo{a:Array Oper}{e}(h:B9 a e=true):∀i o d,WM a i=true->a[i]?=some o->o.dst=some d->get e d=.undef:=by intro i o d f c g;have b:=jt.1 h i (Ss.2 (W0.1 c).1);rw[f]at b;simp only[BI,GV,c,cF,g]at b;unfold Qeb at b;split at b;assumption;cases b
def Qqp{P L}(n:Jm P L){a:Array Oper}(h:Qec L a=true):∀j o,a[j]?=some o->WM a j=true->(∃i mk,Hz P o i mk)/\∃d,o.dst=some d:=by
 intro j o f m;have c:=(eU f m).1;have l:o∈a.toList:=by have:=Array.mem_of_getElem? f;simpa using this
 have b:=jt.1 h o l;unfold zd at c;cases e:o.op<;>rw[e]at c b<;>first|cases c|skip
 rename_i t;simp only[ZM]at b;obtain⟨y,k⟩:=E6.1 b.1;exact⟨⟨_,_,QdT n e k⟩,E6.1 b.2⟩;rename_i t g;cases g with
 | some x=>cases c
 | none=>exact⟨⟨_,_,QdU e .i64⟩,E6.1 b⟩
def Qed{L}{a:Array Oper}{R}:∀{l:List (Nat × Bool)} {done:List Nat},Fs nc L a R (l.map λb=>(b.1,b.2,a[b.1]?)) done=true->∀i p,(i,p)∈l->WM a i=true->p=false
 | [],_,_,_,_,h,_=>by cases h
 | (j,q)::r,done,h,i,p,e,d=>by
  simp only[Jr]at h;cases c:a[j]? with
  | none=>rw[c]at h;cases h
  | some o=>
   rw[c]at h;simp only[Fs,ZM,qV]at h;rcases QK.1 e with h1|h1;cases h1;cases q with
   | false=>rfl
   | true=>have:=h.1.2;simp only[ZM,qV,d]at this;cases this.1
   exact Qed h.2 i p h1 d
def Ca(l:List (Nat × Bool)):List En:=l.map λx=>(x.1,x.2,none)
def pF:∀l:List (Nat × Bool),YX (Ca l)=l
 | []=>rfl
 | x::r=>congrArg (x::·) (pF r)
def Qee:∀l,early (Ca l)=[]
 | []=>rfl
 | (_,_)::r=>Qee r
def pG:∀l,blocks (Ca l)=[]
 | []=>rfl
 | (_,_)::r=>pG r
def Qef:∀l,YY (Ca l)=l.length
 | []=>rfl
 | (_,_)::r=>by show YY (Ca r)+1=_;rw[Qef r];rfl
def fj{l i p q}(h:(i,p,q)∈Ca l):(i,p)∈l/\q=none:=by obtain⟨x,hx,e⟩:=Jw.1 h;cases e;exact⟨hx,rfl⟩
def Qeg{L}(n:Jm P L)(V:base<=w0.w.heap.size){v c Q}{s:St}(B:P.follows .mixedOrders=true)(l:List (Nat × Bool))(R:List Nat)(t:DK nc L c l R=true)(E:B9 c s.fr=true)(h:AX P base nt w0 (Fw nc P base nt w0 c (λs=>Q .normal s) R.length R (l.map (·.1))) (Vo nc c l) s):A P base nt w0 (.region v c true) Q s:=by
 intro Z z g a w r b;simp only[DK,ZM]at t;obtain⟨⟨⟨⟨⟨⟨⟨T,S⟩,O⟩,u⟩,N⟩,K⟩,J⟩,H⟩:=t;obtain⟨F,c2⟩:=fh J;have f:=Sw S;have M:Marks c (Array.replicate c.size false) []:=⟨σ,λj e=>by simp[e],λj=>by rcases xI j c.size with m|m;simp[m];simp[m],λj e=>by cases e⟩
 have U:Vn Z base w0 s.h g { w with drawn:=w.drawn+1 }:=⟨⟨b.1.os,b.1.tape,b.1.output,b.1.size,b.1.block⟩,⟨b.2.1.Kz,b.2.1.obj,b.2.1.shape⟩,⟨b.2.2.new,b.2.2.own⟩⟩;have I:yL nc P L c R base nt w0 Z Z (Ca l) [] (Array.replicate c.size false) s g a { w with drawn:=w.drawn+1 }:=by refine⟨by rw[pF];exact u,λj e _=>?_,λj e=>⟨σ,by have:=(c2 j e).1;simpa[X1,Ca] using this,(c2 j e).2⟩,by rw[Qee];exact M,λi p b h=>?_,λi p q h k=>Qed u i p (fj h).1 k,λb=>by rw[pG];simp,λi p b h=>?_,by rw[pG];exact List.nodup_nil,λi p q h k o d x C=>Qqo E i o d k x C,r.ext λ_ _=>rfl,U,λi p b h=>?_⟩;have:=QdQ O j e;simpa[X1,Ca] using this;cases (fj h).2;cases (fj h).2;cases (fj h).2
 have:=Qqf n T V (Qqm N) (Qqp n K) F H _ (Ca l) [] _ s g a _ Z (Qv _) I (λj=>by simp[X1,Ca]) (by rw[pF];exact h);rw[Qef,f]at this;exact wp_region_any B (eK (λa w y=>y) _ _ _ _ this)
def Qqq{L}(e:Jm P L)(g:base<=w0.w.heap.size){b a Q}{s:St}(c:P.follows .mixedOrders=true)(l)(f:fi L a l=true)(d:B9 a s.fr=true)(h:AX P base nt w0 (λs=>Q .normal s) (Vo [] a l) s):A P base nt w0 (.region b a true) Q s:=
 Qeg e g c l [] f d h
def Qqr{L}(e:Jm P L)(g:base<=w0.w.heap.size){b a Q k}{s:St}(c:P.follows .mixedOrders=true)(l)(f:fi L a l=true)(d:B9 a s.fr=true)(h:AX P base nt w0 (λs=>QA P base nt w0 Q k .normal s) (Vo [] a l) s):QA P base nt w0 Q (.code (.region b a true)::k) .normal s:=by simp only[QA];exact Qqq e g c l f d h
def Qeh{L}(e:Jm P L)(g:base<=w0.w.heap.size){b a Q k}{s:St}(c:P.follows .mixedOrders=true)(l:List (Nat × Bool))(R:List Nat)(f:DK nc L a l R=true)(d:B9 a s.fr=true)(h:AX P base nt w0 (Fw nc P base nt w0 a (λs=>QA P base nt w0 Q k .normal s) R.length R (l.map (·.1))) (Vo nc a l) s):QA P base nt w0 Q (.code (.region b a true)::k) .normal s:=by simp only[QA];exact Qeg e g c l R f d h
end
section
variable (P:Program)(base:Nat)(w0:Start)(X:Cx)(nt:Nat)
def Ma(a:Bool)(o:Oper)(F:St->Prop)(stop:Prop)(s:St):Prop:=match yJ X s o.op with
 | some (p,d)=>p/\Zr nt o.dst=true/\F ⟨Zi s.fr o.dst d,s.h⟩
 | none=>match a with
  | true=>False
  | false=>match AV X s o.op with
   | some (p,h,d)=>p/\Zr nt o.dst=true/\F ⟨Zi s.fr o.dst d,h⟩
   | none=>stop
def A4(K:St->Prop):List (Bool × Oper × G)->St->Prop
 | [],s=>K s
 | (a,o,g)::r,s=>match g with
  | none=>Ma X nt a o (A4 K r) (AX P base nt w0 K ((a,o,none)::r) s) s
  | some (none,_)=>Zr nt o.dst=true/\A4 K r ⟨Zi s.fr o.dst (.raw Go.undef),s.h⟩
  | some (some t,b)=>match get s.fr t with
   | .raw (.bool x)=>(Fl b x=true->Ma X nt a o (A4 K r) (AX P base nt w0 K ((a,o,none)::r) ⟨put s.fr t (.raw (.bool b)),s.h⟩) ⟨put s.fr t (.raw (.bool b)),s.h⟩) /\
     (Fl b x=false->Zr nt o.dst=true/\A4 K r ⟨Zi (put s.fr t (.raw (.bool (!b)))) o.dst (.raw Go.undef),s.h⟩)
   | .raw (.tuple _)=>Zr nt o.dst=true/\A4 K r ⟨Zi s.fr o.dst (.raw Go.undef),s.h⟩
   | _=>False
end
section
variable {nc:List Nat}{P:Program}{base nt:Nat}{w0:Start}
def Qqs{X}(E:q9 P X)(Q6:base<=w0.w.heap.size){n o F M stop s}(R:∀s,F s->M s)(N:stop->XA P base nt w0 n o M s)(h:Ma X nt n o F stop s):XA P base nt w0 n o M s:=by
 unfold Ma at h;split at h
 .rename_i p d c;have C:=QdB (P:=P) (base:=base) (nt:=nt) E c h.1;have i:=R _ h.2.2;cases n with
  | true=>refine⟨d,C,λK=>?_,h.2.1,i⟩;unfold DH at K;split at K;rename_i t x e;simp only[yJ,e]at c;exact QcP E.L e c h.1;cases K
  | false=>
   have f:zd o=false:=by
    cases f:zd o with
    | false=>rfl
    | true=>
     unfold zd at f;cases e:o.op<;>rw[e]at f<;>first|cases f|skip
     all_goals
      rw[e]at c;simp[yJ]at c
   simp only[XA,f];intro Z z B a w r b;obtain⟨v,H,j⟩:=C Z B a w r;unfold Oper.wp;rw[j w λ_ _=>rfl];simp only[Oper.upon_value];refine⟨.ext (Ext.refl _),_,_,B,v,i,?_,b,Tr.refl _ _ _,rfl⟩;cases J:o.dst with
   | none=>exact r
   | some t=>have g:=h.2.1;rw[J]at g;exact r.to (Tr.ext r.o λ_ _=>rfl) r.o (vE g) H
 .split at h;exact h.elim
  .split at h
   .rename_i p S d c;have C:=QdC (P:=P) (base:=base) (nt:=nt) E c h.1;have i:=R _ h.2.2;have g:=h.2.1;cases f:zd o with
    | true=>
     unfold zd at f;cases e:o.op<;>rw[e]at f<;>first|cases f|skip
     rename_i t;simp only[e,AV]at c;split at c;rename_i y Y;simp only[Q7,Zg]at c;obtain⟨_,rfl,rfl⟩:=c;have f:zd o=true:=by simp[zd,e]
     simp only[XA,f];exact⟨_,_,QdT E.L e Y,g,i⟩;cases c
     .rename_i t W;cases W with
      | some x=>cases f
      | none=>
       simp only[e,AV]at c;have hq:∃q,S=s.h++[QT q 0 []]/\d=.mref s.h.length 0:=by
        unfold OF at c;split at c
        .split at c;all_goals
          simp only[Q7,Zg]at c;obtain⟨_,rfl,rfl⟩:=c;exact⟨_,rfl,rfl⟩
        cases c
       obtain⟨q,rfl,rfl⟩:=hq;have f:zd o=true:=by simp[zd,e]
       simp only[XA,f];exact⟨_,_,QdU e q,g,i⟩
    | false=>
    simp only[XA,f];intro Z z B a w r b;have T:DI o=false:=by
     cases I:DI o with
     | false=>rfl
     | true=>unfold DI at I;split at I;rename_i e;simp[AV,e]at c;cases I
    obtain⟨v,V,L,j,k,Q,H,O,U⟩:=C Z B a w r (J5 Q6 b.1.size);have m:∀u,u=v->Rel Z base nt ⟨Zi s.fr o.dst d,S⟩ L (a.put o.dst u) V:=by
     rintro u rfl;cases J:o.dst with
     | none=>exact r.AI k Q u
     | some t=>rw[J]at g;exact r.to k Q (vE g) H
    unfold Oper.wp;rcases j with j|⟨j,hu⟩;rw[j];simp only[Oper.upon_value];exact⟨.mk (λl=>U (by simp only[Fq,ZM]at l;exact l.1)) T,_,_,L,_,i,m v rfl,b.step k O,k,rfl⟩;rw[j];simp only[Oper.upon_skip];exact⟨.mk (λl=>U (by simp only[Fq,ZM]at l;exact l.1)) T,_,_,L,_,i,m _ hu.symm,b.step k O,k,rfl⟩
   exact N h
def Fy{X}(a:q9 P X)(c:base<=w0.w.heap.size){K}:∀(l:List (Bool × Oper × G)) (s:St),A4 P base w0 X nt K l s->AX P base nt w0 K l s
 | [],s,h=>h
 | (d,o,g)::r,s,h=>by
  have f:∀s,Ma X nt d o (A4 P base w0 X nt K r) (AX P base nt w0 K ((d,o,none)::r) s) s->XA P base nt w0 d o (AX P base nt w0 K r) s:=λs i=>Qqs a c (λs=>Fy a c r s) (λh=>h) i
  simp only[A4]at h;simp only[AX];split at h;exact f s h;exact⟨h.1,Fy a c r _ h.2⟩;rename_i t b;split at h;rename_i x hx;simp only[QdD,qZ,kh,ne_eq]at h;refine⟨λe=>f _ (h.1 e),λe=>?_⟩;have:=h.2 (by rw[e];cases b<;>simp);exact⟨this.1,Fy a c r _ this.2⟩;exact⟨h.1,Fy a c r _ h.2⟩;exact h.elim
def Ym(a:D):D->Prop
 | .imm z n r=>match a with
  | .imm b e d=>b=z/\e=n/\∀i,i<n->d i=r i
  | _=>False
 | .raw v=>a=.raw v
 | .nil=>a=.nil
 | .undef=>a=.undef
 | .ip c=>a=.ip c
 | .ref l g o n=>a=.ref l g o n
 | .ptr l g i j=>a=.ptr l g i j
 | .mref l g=>a=.mref l g
 | .clo f n c=>a=.clo f n c
 | .agg c=>a=.agg c
 | .tup c=>a=.tup c
def KN:List D->List D->Prop
 | [],[]=>True
 | b::a,d::r=>Ym b d/\KN a r
 | _,_=>False
def Qqu{N w g d v}(h:Ym g d)(c:Cl N w g v):Cl N w d v:=by
 cases d<;>simp only[Ym]at h;case imm z n r=>
  split at h;obtain⟨rfl,rfl,h⟩:=h;cases c with
  | imm _ _ _ a f b o k t p l s m=>exact .imm _ _ _ a f b o k t p (λi e=>by rw[<-h i e];exact l i e) s (λi j e q=>by rw[<-h i e];exact m i j e q)
  exact h.elim
 all_goals subst h;exact c
def Qei:∀{a b:List D},KN a b->a.length=b.length/\∀i,i<b.length->Ym (nth a i) (nth b i)
 | [],[],_=>⟨rfl,λi c=>by simp at c⟩
 | [],_::_,h=>h.elim
 | _::_,[],h=>h.elim
 | j::g,d::r,h=>by
  obtain⟨f,e⟩:=Qei h.2;refine⟨by simp[f],λi c=>?_⟩;cases i with
  | zero=>exact h.1
  | succ i=>have:=e i (zC c);simpa[nth] using this
def Qqv{Z h a w b d v}(e:Ym b d)(r:QF Z h a w b v):QF Z h a w d v:=by
 cases d<;>simp only[Ym]at e;case imm z n c=>
  split at e;cases r with
  | cl _ _ f=>exact .cl _ _ (Qqu (d:=.imm z n c) (by simpa only[Ym] using e) f)
  exact e.elim
 all_goals subst e;exact r
def QO.args{P f F a b R}(h:QO P f F b R)(e:KN a b):QO P f F a R:=λZ base w d c m l k o j=>by obtain⟨p,n⟩:=Qei e;exact h Z base w d c m l k ω λi g=>Qqv (n i g) (j i ω)
def QM.args{P f a b R}(h:QM P f b R)(e:KN a b):QM P f a R:=QO.args h e
def Tl(U:base<=w0.w.heap.size){K g}{u:TypeId}{pos i N r s x c}{Q:Array TypeId}{f n t}(J:Qm P f)
  (E:JP (Qr s.fr x)=some (f,n,t)) {q:List D} (m:match YU (Wq s.h 4) (Jh n t (c.toList.map (Qr s.fr))) with|some (p,j)=>p/\KN j q|none=>False) {R:D->List Ob->Prop} (l:QM P f q R)
  (V:∀d h,R d h->d.flat=true/\∀o∈h,o.flat) (F:Zr nt g=true) (I:∀d h,R d h->AX P base nt w0 K r ⟨Zi s.fr g (d.shift s.h.length),s.h++h.map (Ob.shift s.h.length)⟩) :
  AX P base nt w0 K ((false,⟨g,.call ⟨.value x,c,Q⟩,u,pos,i,N⟩,none)::r) s:=by
 simp only[AX,XA,zd];intro Z z C a w y b;split at m;rename_i p j L;obtain⟨H,k⟩:=m;have l:=l.args k;refine Oper.wp_mono (λY W ⟨k,d,h,S,M,B,O,T,v,e⟩=>⟨λ_=>k,_,_,S,v,I d h M,B,O,T,e⟩) (QdH U J rfl E L H l V F C a w y b _);exact m.elim
def X2(E:base<=w0.w.heap.size){Q k b}{q:TypeId}{pos c B r s x a}{C:Array TypeId}{f j n}(w:Qm P f)
  (t:JP (Qr s.fr x)=some (f,j,n)) {m:List D} (i:match YU (Wq s.h 4) (Jh j n (a.toList.map (Qr s.fr))) with|some (p,e)=>p/\KN e m|none=>False) {R:D->List Ob->Prop} (g:QM P f m R)
  (F:∀d h,R d h->d.flat=true/\∀o∈h,o.flat) (u:Zr nt b=true) (l:∀d h,R d h->QA P base nt w0 Q (.ops r::k) .normal ⟨Zi s.fr b (d.shift s.h.length),s.h++h.map (Ob.shift s.h.length)⟩) :
  QA P base nt w0 Q (.ops ((⟨b,.call ⟨.value x,a,C⟩,q,pos,c,B⟩,none)::r)::k) .normal s:=by
 simp only[QA]at l ⊢;split at i;rename_i p e z;obtain⟨v,y⟩:=i;have g:=g.args y;exact QpT E w rfl t z v g F u l;exact i.elim
end
section
variable {nc:List Nat}{P:Program}{base nt:Nat}{w0:Start}
def XA.mono{f o F j}(g:∀s,F s->j s){s}(h:XA P base nt w0 f o F s):XA P base nt w0 f o j s:=by
 cases f with
 | true=>obtain⟨d,e,c,i,n⟩:=h;exact⟨d,e,c,i,g _ n⟩
 | false=>simp only[XA]at h ⊢;split at h;obtain⟨l,mk,e,c,i⟩:=h;exact⟨l,mk,e,c,g _ i⟩;intro Z z k a w r b;exact Oper.wp_mono (λq w' ⟨m,d,h',p,v,e,c⟩=>⟨m,d,h',p,v,g _ e,c⟩) (h Z z k a w r b)
def AX.mono{K b}(a:∀s,K s->b s):∀(l:List (Bool × Oper × G)) (s:St),AX P base nt w0 K l s->AX P base nt w0 b l s
 | [],s,h=>a s h
 | (c,o,g)::r,s,h=>by simp only[AX]at h ⊢;split at h;exact XA.mono (AX.mono a r) h;exact⟨h.1,AX.mono a r _ h.2⟩;split at h;exact⟨λe=>XA.mono (AX.mono a r) (h.1 e),λe=>⟨(h.2 e).1,AX.mono a r _ (h.2 e).2⟩⟩;exact⟨h.1,AX.mono a r _ h.2⟩;exact h.elim
end
end Go.Fg
namespace Go.Fg
attribute [go_sem_proc] reduceIte reduceDIte dreduceIte dreduceDIte reduceCtorEq List.reduceReplicate Nat.reduceAdd Nat.reduceSub Nat.reduceMul Nat.reduceBEq Nat.reduceLT Nat.reduceGT Nat.reduceLeDiff Nat.reduceEqDiff Nat.reduceBneDiff Nat.reduceBeqDiff Nat.reduceSubDiff Nat.reduceBNe Nat.reduceDiv Nat.reduceMod Nat.reduceSucc Nat.reducePow Nat.reduceDvd Int.reduceToNat Int.reduceLE Int.reduceLT Int.reduceGT Int.reduceGE Int.reduceEq Int.reduceNe Int.reduceAdd Int.reduceSub Int.reduceMul Int.reduceNeg Int.reduceDiv Int.reduceMod Int.reducePow Int.reduceBEq Int.reduceBNe Int.reduceOfNat Int.reduceNegSucc Int.reduceNatCast Int.reduceNatCast' Int.reduceAbs Int.reduceDvd
def Vp{c:Sort _}{a b:c}(h:a=b):a=b:=h
@[go_sem] theorem QHo(a b:Nat):Nat.beq a b=(a==b):=by rw[wz];simp[Wz]
@[go_sem] theorem Qqw(a b):Nat.blt a b=decide (a<b):=by rw[wz];simp[xH]
@[go_sem] theorem Fz(a b:Nat):Nat.ble a b=decide (a<=b):=by rw[wz];simp[Lj]
def hx(P:Program)(a:Nat)(c:Start)(Q:Exit->St->Prop)(X:Cx)(b n:Nat)(k:List Item)(s:St):Prop:=(exec X b n k s).holds P a b c Q
def hz(P:Program)(a:Nat)(b:Start)(Q:Exit->St->Prop)(X:Cx)(c n:Nat)(k:List Item)(s:St):Prop:=hx P a b Q X c n k s
def Xa(b:Bool)(A B:Prop):Prop:=(b=true->A)/\(b=false->B)
def ZS(b:Bool)(A:Prop):Prop:=b=true/\A
section
variable {P:Program}{base:Nat}{w0:Start}{Q:Exit->St->Prop}{X:Cx}{nt n:Nat}{k:List Item}{s:St}
@[go_sem ↓] theorem QHp{B}:Xa true (hz P base w0 Q X nt n k s) B=hx P base w0 Q X nt n k s:=by simp[Xa,hz]
@[go_sem ↓] theorem QHq{A}:Xa false A (hz P base w0 Q X nt n k s)=hx P base w0 Q X nt n k s:=by simp[Xa,hz]
def VX{b c a}(e:b=true->hx P base w0 Q X nt n k s)(d:b=false->hx P base w0 Q X nt n c a):Xa b (hz P base w0 Q X nt n k s) (hz P base w0 Q X nt n c a):=⟨e,d⟩
theorem QHr:hx P base w0 Q X nt (n+1) [] s=Q .normal s:=Vp rfl
theorem QHs{a}:hx P base w0 Q X nt (n+1) (.inBlock a::k) s=hx P base w0 Q X nt n k s:=Vp rfl
theorem QHt:hx P base w0 Q X nt (n+1) (.code .skip::k) s=hx P base w0 Q X nt n k s:=Vp rfl
theorem QHu{l}:hx P base w0 Q X nt (n+1) (.code (.label l)::k) s=hx P base w0 Q X nt n k s:=Vp rfl
theorem QHv{a b}:hx P base w0 Q X nt (n+1) (.code (.seq a b)::k) s=hx P base w0 Q X nt n (.code a::.code b::k) s:=Vp rfl
theorem QHw{a c}:hx P base w0 Q X nt (n+1) (.code (.block a c)::k) s=hx P base w0 Q X nt n (.code c::.inBlock a::k) s:=Vp rfl
theorem QHx:hx P base w0 Q X nt (n+1) (.inScope::k) s=hx P base w0 Q X nt n k s:=Vp rfl
theorem QHy{c}:hx P base w0 Q X nt (n+1) (.code (.scope c)::k) s=hx P base w0 Q X nt n (.code c::.inScope::k) s:=Vp rfl
attribute[go_sem]QHr QHs QHt QHu QHv QHw QHx QHy
@[go_sem] theorem QHz{c a b}:hx P base w0 Q X nt (n+1) (.code (.cond c a b)::k) s=(match Qr s.fr c with
  | .raw (.bool x)=>Xa x (hz P base w0 Q X nt n (.code a::k) s) (hz P base w0 Q X nt n (.code b::k) s)
  | _=>False):=by
 simp only[hx,exec];generalize Qr s.fr c=d;cases d with
 | raw v=>cases v<;>rfl
 | _=>rfl
@[go_sem] theorem QHA{a}:hx P base w0 Q X nt (n+1) (.code (.exit a)::k) s=(match kv a k with
  | some b=>hx P base w0 Q X nt n b s
  | none=>Q (.exit a) s):=by
 simp only[hx,exec];generalize kv a k=r;cases r<;>rfl
theorem QHB:hx P base w0 Q X nt (n+1) (.code .ret::k) s=Q .ret s:=Vp rfl
theorem QHC{b a}:hx P base w0 Q X nt (n+1) (.code (.region b a false)::k) s=hx P base w0 Q X nt n (.ops (B1 a)::k) s:=Vp rfl
theorem QHD{b a}:hx P base w0 Q X nt (n+1) (.code (.region b a true)::k) s=QA P base nt w0 Q (.code (.region b a true)::k) .normal s:=Vp rfl
theorem QHE{c}:hx P base w0 Q X nt (n+1) (.code (.loop c)::k) s=QA P base nt w0 Q (.code (.loop c)::k) .normal s:=Vp rfl
theorem QHF:hx P base w0 Q X nt (n+1) (.ops []::k) s=hx P base w0 Q X nt n k s:=Vp rfl
attribute[go_sem]QHB QHC QHD QHE QHF
@[go_sem ↓] theorem QHG{A}:ZS true A=A:=by simp[ZS]
@[go_sem] theorem QHH{o:Oper}{r}:hx P base w0 Q X nt (n+1) (.ops ((o,none)::r)::k) s=(match yJ X s o.op with
  | some (p,d)=>p/\(match Zr nt o.dst with|true=>hx P base w0 Q X nt n (.ops r::k) ⟨Zi s.fr o.dst d,s.h⟩|false=>False)
  | none=>match AV X s o.op with
   | some (p,h,d)=>p/\(match Zr nt o.dst with|true=>hx P base w0 Q X nt n (.ops r::k) ⟨Zi s.fr o.dst d,h⟩|false=>False)
   | none=>QA P base nt w0 Q (.ops ((o,none)::r)::k) .normal s):=by
 simp only[hx,exec];generalize yJ X s o.op=b;generalize AV X s o.op=a;cases b with
 | some e=>cases Zr nt o.dst<;>simp[Tree.holds]
 | none=>cases a with
  | some c=>cases Zr nt o.dst<;>simp[Tree.holds]
  | none=>rfl
def Qej{o:Oper}{t b r}(a:Zr nt o.dst=true):hx P base w0 Q X nt (n+1) (.ops ((o,some (some t,b))::r)::k) s=(match get s.fr t with
  | .raw (.bool x)=>Xa (Fl b x) (hz P base w0 Q X nt n (.ops ((o,none)::r)::k) ⟨put s.fr t (.raw (.bool b)),s.h⟩) (hz P base w0 Q X nt n (.ops r::k) ⟨Zi (put s.fr t (.raw (.bool (!b)))) o.dst (.raw Go.undef),s.h⟩)
  | .raw (.tuple _)=>hx P base w0 Q X nt n (.ops r::k) ⟨Zi s.fr o.dst (.raw Go.undef),s.h⟩
  | _=>False):=by
 simp only[hx,exec];generalize get s.fr t=d;cases d with
 | raw v=>
  cases v with
  | bool x=>simp[Xa,hz,hx,a,Tree.holds]
  | tuple c=>simp[a]
  | _=>rfl
 | _=>rfl
@[go_sem] theorem QHI{o:Oper}{t r}(a:Zr nt o.dst=true):hx P base w0 Q X nt (n+1) (.ops ((o,some (some t,true))::r)::k) s=(match get s.fr t with
  | .raw (.bool x)=>Xa x (hz P base w0 Q X nt n (.ops ((o,none)::r)::k) ⟨put s.fr t (.raw (.bool true)),s.h⟩) (hz P base w0 Q X nt n (.ops r::k) ⟨Zi (put s.fr t (.raw (.bool false))) o.dst (.raw Go.undef),s.h⟩)
  | .raw (.tuple _)=>hx P base w0 Q X nt n (.ops r::k) ⟨Zi s.fr o.dst (.raw Go.undef),s.h⟩
  | _=>False):=Qej a
@[go_sem] theorem QHJ{o:Oper}{t r}(a:Zr nt o.dst=true):hx P base w0 Q X nt (n+1) (.ops ((o,some (some t,false))::r)::k) s=(match get s.fr t with
  | .raw (.bool x)=>Xa x (hz P base w0 Q X nt n (.ops r::k) ⟨Zi (put s.fr t (.raw (.bool true))) o.dst (.raw Go.undef),s.h⟩) (hz P base w0 Q X nt n (.ops ((o,none)::r)::k) ⟨put s.fr t (.raw (.bool false)),s.h⟩)
  | .raw (.tuple _)=>hx P base w0 Q X nt n (.ops r::k) ⟨Zi s.fr o.dst (.raw Go.undef),s.h⟩
  | _=>False):=by
 rw[Qej a];generalize get s.fr t=d;cases d with
 | raw v=>
  cases v with
  | bool x=>cases x<;>simp[Xa,Fl]
  | _=>rfl
 | _=>rfl
end
section
variable {P:Program}{base nt:Nat}{w0:Start}{Q:Exit->St->Prop}{k:List Item}{s:St}{I:Nat->St->Prop}{m:Nat}
theorem QHK{e}:QA P base nt w0 Q [] e s=Q e s:=Vp rfl
theorem QHL{x}:QA P base nt w0 Q (x::k) .ret s=QA P base nt w0 Q k .ret s:=by cases x<;>rfl
theorem QHM{c j}:QA P base nt w0 Q (.code c::k) (.exit j) s=QA P base nt w0 Q k (.exit j) s:=Vp rfl
theorem QHN{l j}:QA P base nt w0 Q (.ops l::k) (.exit j) s=QA P base nt w0 Q k (.exit j) s:=Vp rfl
attribute[go_sem]QHK QHL QHM QHN
@[go_sem] theorem QHO{a}:QA P base nt w0 Q (.inBlock a::k) (.exit a) s=QA P base nt w0 Q k .normal s:=by simp[QA]
theorem QHP{a}:QA P base nt w0 Q (.inBlock a::k) .normal s=QA P base nt w0 Q k .normal s:=Vp rfl
theorem QHQ{j}:QA P base nt w0 Q (.inScope::k) (.exit j) s=QA P base nt w0 Q k (.exit j) s:=Vp rfl
theorem QHR:QA P base nt w0 Q (.inScope::k) .normal s=QA P base nt w0 Q k .normal s:=Vp rfl
theorem QHS:eG P base nt w0 Q k I m .normal s=∃b a,b<m/\Qs w0 s a/\I b a:=Vp rfl
theorem QHT{j}:eG P base nt w0 Q k I m (.exit j) s=QA P base nt w0 Q k (.exit j) s:=Vp rfl
theorem QHU:eG P base nt w0 Q k I m .ret s=QA P base nt w0 Q k .ret s:=Vp rfl
attribute[go_sem]QHP QHQ QHR QHS QHT QHU
end
attribute [go_sem] B1 guardOf strip Qr get put Zi Zr YP Ke yJ AV kv Fl
 cT cO cP cQ cR G4 G5 cS od IntKind.same Lz mk TK.agg Ox cU cV Oy cW cX cY cZ
 AM BR setRow SI SJ Dx dC OD yE BW dD vz dG dK Fj LI cat vA zT nth D.there J8 oG
 Jh YU Wq JP Fm one AW D.shift yK Ob.shift kx D.Yl D.flat Fo D.upto xP Hv Hx B4 B3 OM Kd.Lr Kd.ty Kd.ro Kd.LU Kd.toRo
attribute [go_sem] Jr List.map_nil List.getElem?_toArray List.getElem?_cons_zero List.getElem?_cons_succ List.getElem?_nil cF Option.bind_none Kq qY Kx Lf qs qv JN
 List.all_cons List.all_nil List.take_zero List.take_succ_cons List.take_nil List.drop_zero List.drop_succ_cons List.drop_nil List.set_cons_zero List.set_cons_succ List.getD_cons_zero List.getD_cons_succ List.replicate_zero bZ List.flatten_cons List.flatten_nil
 wD ju BI GW Bool.and_true Sj Lb N9 Bool.or_true Sk Bool.or_false GV Ot decide_true decide_false yz and_true false_and and_false
 implies_true forall_const reduceCtorEq List.toList_toArray Oc ES Int.ofNat_lt Int.ofNat_le Int.ofNat_inj JG vn Qv Z7 Q7 Zg
def FA{P a c}{b:Start}{Q X}(e:q9 P X)(d:a<=b.w.heap.size)(n){k s}(h:hx P a b Q X c n k s):QA P a c b Q k .normal s:=vF e d n k s h
def pH{P:Program}{X}(o:q9 P X){f}{d:Func}{c}(n)(m:P.funcs[f]?=some d)(g:d.body=some c){b:List D}{R e i}(p:d.ntmps=e)(q:d.results=i)(k:Nat.ble b.length e=true)
  (h:∀(a:Nat) (w:World),a<=w.heap.size->hx P a ⟨w,[],[]⟩ (AW X.L i.toList R) X e n [.code c] ⟨kx b 0,[]⟩):QM P f b R:=
 QdM o n m g p (Sx k) (by
  subst q;intro a w j g l;cases j with
  | nil=>exact h a w g
  | cons _ _=>simp at l)
def pI{P:Program}{X}(m:q9 P X){f}{d:Func}{c}(n)(l:P.funcs[f]?=some d)(i:d.body=some c){F}{b:List D}{R g j}(o:d.ntmps=g)(p:d.results=j)(k:Nat.ble b.length g=true)
  (h:∀(a:Nat) (w:World) (e:List Pl),a<=w.heap.size->hx P a ⟨w,F,e⟩ (AW X.L j.toList R) X g n [.code c] ⟨kx b 0,F⟩):QO P f F b R:=
 QdM m n l i o (Sx k) (by subst p;exact λa w e i _=>h a w e i)
def Zo.take{Z a}{h:List Ob}{c:List Pl}{w}(R:Zo Z a h c w)(k)(y:B4 k (h.take k)):Zo Z a (h.take k) (c.take k) w:=by
 have f:∀(l:Nat) (p:Pl),(c.take k)[l]?=some p->c[l]?=some p:=λl p e=>by rw[XJ]at e;split at e;exact e;cases e
 have m:∀(l:Nat) (o:Ob),(h.take k)[l]?=some o->h[l]?=some o:=λl o e=>by rw[XJ]at e;split at e;exact e;cases e
 refine⟨by simp[R.len],λl r b q n C B=>R.inj l r b q n (f _ _ C) (f _ _ B),λl o d g=>R.V7 l o (m _ _ d) (f _ _ g),λl o b q d g=>?_⟩;obtain⟨z,x⟩:=R.at_ l o b q (m _ _ d) (f _ _ g);exact⟨z,x.to rfl rfl rfl rfl (λ_ _=>rfl) λi j v u t s=>s.take (ON (ph y l o d i u) j t)⟩
def Kept(k:Nat)(R:D->List Ob->Prop)(d:D)(h:List Ob):Prop:=d.upto k=true/\B4 k (h.take k)/\R d (h.take k)
def Qqy{a:List Pl}{k b}(h:XL a b):XL (a.take k) b:=λl q e=>by rw[XJ]at e;split at e;exact h l q e;cases e
def QO.take{P f}{F:List Ob}{a R}(k)(t:F.length<=k)(h:QO P f F a (Kept k R)):QO P f F a R:=λZ b w g e C B z c x=>
 (h Z b w g e C B z c x).mono λ_ _ ⟨v,d,u,J,q,⟨I,H,E⟩,n,m,j,i⟩=>⟨v,d,u.take k,J.take k,q,E,n.take k H,m.take I,
  j.keep t ⟨λ_ y=>Qqy y,λl o p c s r=>⟨o,by rw[XJ,Qe c];exact s,by rw[XJ,Qe c];exact r,rfl,rfl,rfl⟩⟩,i⟩
def Qek(k){P:Program}{X}(m:q9 P X){f}{d:Func}{c}(n)(j:P.funcs[f]?=some d)(l:d.body=some c){a:List D}{R e g}(o:d.ntmps=e)(p:d.results=g)(i:Nat.ble a.length e=true)
  (h:∀(b:Nat) (w:World),b<=w.heap.size->hx P b ⟨w,[],[]⟩ (AW X.L g.toList (Kept k R)) X e n [.code c] ⟨kx a 0,[]⟩):QM P f a R:=
 QO.take k (Z7 _) (pH m n j l o p i h)
attribute [go_sem] Kept
def Qel{k}:∀{h c:List Ob},B3 h c->B4 k c->B4 k h
 | [],[],_,_=>trivial
 | [],_::_,h,_=>h.elim
 | _::_,[],h,_=>h.elim
 | _::_,_::_,h,b=>⟨λi a=>by rw[<-h.1.2.2.2.2 i a];exact b.1 i (by rw[h.1.2.2.1];exact a),Qel h.2 b.2⟩
def Wk.to{m}(k){d a}{h c:List Ob}(b:Hv d a/\Hx k a=true/\B4 k c/\B3 (h.take k) c)(e:m<=k:=by exact Sx rfl):Wk m ⟨d,h⟩ ⟨a,c⟩:=
 Wk.trans (Wk.frame b.1) (Wk.trans (Wk.drop k e b.2.1 (Qel b.2.2.2 b.2.2.1)) (Wk.Hw b.2.2.2))
def Qs.to{c:Start}(k){d a}{h b:List Ob}(e:Hv d a/\Hx k a=true/\B4 k b/\B3 (h.take k) b)(f:c.F.length<=k:=by exact Sx rfl):Qs c ⟨d,h⟩ ⟨a,b⟩:=(Wk.to k e f).up
def Qs.frame{b a fr' h}(c:Hv a fr'):Qs b ⟨a,h⟩ ⟨fr',h⟩:=(Wk.frame c).up
def Qs.vr{d b}{h:List Ob}(t c a)(e:get b t=.nil):Qs d ⟨b,h⟩ ⟨put b t (.ref h.length 0 0 0),h++[⟨.arr,0,c,0,a⟩]⟩:=(Wk.vr t c a e).up
def Mb{a:Type}[Inhabited a](c:Nat)(b:a->List D)(l:List a)(d:D)(h:List Ob):Prop:=∃g,d=.ref 0 g 0 l.length/\h=[⟨.arr,g,c,l.length,λi=>b (l.getD i default)⟩]
def Mb.flat{b:Type}[Inhabited b]{e:Nat}{a:b->List D}{l:List b}(f:∀x,Fo (a x)=true):∀d h,Mb e a l d h->d.flat=true/\∀o∈h,o.flat:=by rintro d h ⟨g,rfl,rfl⟩;exact⟨rfl,λo c=>by simp at c;subst c;exact λi _=>f _⟩
def O1(P:Program)(a:Nat)(b:Start)(Q:Exit->St->Prop)(X:Cx)(c n:Nat)(k:List Item)(s:St):Prop:=hx P a b Q X c n k s
def Vi(P:Program)(a:Nat)(b:Start)(X:Cx)(c:Nat)(K:St->Prop)(l:List (Bool × Oper × G))(s:St):Prop:=A4 P a b X c K l s
def zX(P:Program)(a:Nat)(b:Start)(X:Cx)(c:Nat)(K:St->Prop)(l:List (Bool × Oper × G))(s:St):Prop:=Vi P a b X c K l s
section
variable {nc:List Nat}{P:Program}{base:Nat}{w0:Start}{Q:Exit->St->Prop}{X:Cx}{nt n:Nat}{k:List Item}{s:St}{l:List (Bool × Oper × G)}{K:St->Prop}
@[go_sem ↓] theorem QHV{B}:Xa true (zX P base w0 X nt K l s) B=Vi P base w0 X nt K l s:=by simp[Xa,zX]
@[go_sem ↓] theorem QHW{A}:Xa false A (zX P base w0 X nt K l s)=Vi P base w0 X nt K l s:=by simp[Xa,zX]
def ze{b c a}(e:b=true->Vi P base w0 X nt K l s)(d:b=false->Vi P base w0 X nt K c a):Xa b (zX P base w0 X nt K l s) (zX P base w0 X nt K c a):=⟨e,d⟩
@[go_sem] theorem QHX:Vi P base w0 X nt K [] s=K s:=Vp rfl
@[go_sem] theorem QHY:O1 P base w0 Q X nt n k s=hx P base w0 Q X nt n k s:=Vp rfl
@[go_sem] theorem QHZ{o:Oper}{r}:Vi P base w0 X nt K ((true,o,none)::r) s=(match yJ X s o.op with
  | some (p,d)=>p/\(match Zr nt o.dst with|true=>Vi P base w0 X nt K r ⟨Zi s.fr o.dst d,s.h⟩|false=>False)
  | none=>False):=by
 simp only[Vi,A4,Ma];generalize yJ X s o.op=a;cases a with
 | some b=>cases Zr nt o.dst<;>simp
 | none=>rfl
@[go_sem] theorem QH0{o:Oper}{r}:Vi P base w0 X nt K ((false,o,none)::r) s=(match yJ X s o.op with
  | some (p,d)=>p/\(match Zr nt o.dst with|true=>Vi P base w0 X nt K r ⟨Zi s.fr o.dst d,s.h⟩|false=>False)
  | none=>match AV X s o.op with
   | some (p,h,d)=>p/\(match Zr nt o.dst with|true=>Vi P base w0 X nt K r ⟨Zi s.fr o.dst d,h⟩|false=>False)
   | none=>AX P base nt w0 K ((false,o,none)::r) s):=by
 simp only[Vi,A4,Ma];generalize yJ X s o.op=b;generalize AV X s o.op=a;cases b with
 | some e=>cases Zr nt o.dst<;>simp
 | none=>cases a with
  | some c=>cases Zr nt o.dst<;>simp
  | none=>rfl
def Qem{a}{o:Oper}{t b r}(c:Zr nt o.dst=true):Vi P base w0 X nt K ((a,o,some (some t,b))::r) s=(match get s.fr t with
  | .raw (.bool x)=>Xa (Fl b x) (zX P base w0 X nt K ((a,o,none)::r) ⟨put s.fr t (.raw (.bool b)),s.h⟩) (zX P base w0 X nt K r ⟨Zi (put s.fr t (.raw (.bool (!b)))) o.dst (.raw Go.undef),s.h⟩)
  | .raw (.tuple _)=>Vi P base w0 X nt K r ⟨Zi s.fr o.dst (.raw Go.undef),s.h⟩
  | _=>False):=by
 simp only[Vi,zX,A4];generalize get s.fr t=d;cases d with
 | raw v=>
  cases v with
  | bool x=>simp[Xa,c]
  | tuple e=>simp[c]
  | _=>rfl
 | _=>rfl
@[go_sem] theorem QH1{a}{o:Oper}{t r}(b:Zr nt o.dst=true):Vi P base w0 X nt K ((a,o,some (some t,true))::r) s=(match get s.fr t with
  | .raw (.bool x)=>Xa x (zX P base w0 X nt K ((a,o,none)::r) ⟨put s.fr t (.raw (.bool true)),s.h⟩) (zX P base w0 X nt K r ⟨Zi (put s.fr t (.raw (.bool false))) o.dst (.raw Go.undef),s.h⟩)
  | .raw (.tuple _)=>Vi P base w0 X nt K r ⟨Zi s.fr o.dst (.raw Go.undef),s.h⟩
  | _=>False):=Qem b
@[go_sem] theorem QH2{a}{o:Oper}{t r}(b:Zr nt o.dst=true):Vi P base w0 X nt K ((a,o,some (some t,false))::r) s=(match get s.fr t with
  | .raw (.bool x)=>Xa x (zX P base w0 X nt K r ⟨Zi (put s.fr t (.raw (.bool true))) o.dst (.raw Go.undef),s.h⟩) (zX P base w0 X nt K ((a,o,none)::r) ⟨put s.fr t (.raw (.bool false)),s.h⟩)
  | .raw (.tuple _)=>Vi P base w0 X nt K r ⟨Zi s.fr o.dst (.raw Go.undef),s.h⟩
  | _=>False):=by
 rw[Qem b];generalize get s.fr t=d;cases d with
 | raw v=>
  cases v with
  | bool x=>cases x<;>simp[Xa,Fl]
  | _=>rfl
 | _=>rfl
def Qen{d a}(c:q9 P X)(b:base<=w0.w.heap.size)(n)(f:P.follows .mixedOrders=true)(l)(i:fi X.L a l=true)(g:B9 a s.fr=true)(h:Vi P base w0 X nt (O1 P base w0 Q X nt n k) (Vo [] a l) s):QA P base nt w0 Q (.code (.region d a true)::k) .normal s:=
 Qqr c.L b f l i g (AX.mono (λs e=>FA c b n e) _ _ (Fy c b _ _ h))
def Qqz(b:q9 P X)(a:base<=w0.w.heap.size)(h:Vi P base w0 X nt K l s):AX P base nt w0 K l s:=Fy b a _ _ h
abbrev Mc:=Nat × Oper × G × List Nat
def Md:List Edge->List Nat
 | []=>[]
 | e::r=>bif Region.binds .any e then e.on::Md r else Md r
def ky(nc:List Nat)(a:Array Oper):List Nat->List Mc
 | []=>[]
 | i::r=>match a[i]? with
  | some o=>(i,qB (Vh i nc) o,guardOf a o,Md o.after.toList)::ky nc a r
  | none=>ky nc a r
def DL(i:Nat):List Mc->List Mc
 | []=>[]
 | e::r=>bif Nat.beq e.1 i then DL i r else e::DL i r
def O3(done:List Nat):List Nat->Bool
 | []=>true
 | i::r=>Vh i done&&O3 done r
def Tm(F:Mc->Prop):List Mc->Prop
 | []=>True
 | e::r=>F e/\Tm F r
def FB(P:Program)(base:Nat)(w0:Start)(X:Cx)(nt:Nat)(K:St->Prop):Nat->List Mc->List Nat->St->Prop
 | 0,_,_,s=>K s
 | m+1,a,done,s=>Tm (λe=>match O3 done e.2.2.2 with
  | true=>Vi P base w0 X nt (FB P base w0 X nt K m (DL e.1 a) (e.1::done)) [(false,e.2.1,e.2.2.1)] s
  | false=>True) a
def pJ{done}:∀{l:List Edge},vG done l=false->O3 done (Md l)=true
 | [],_=>rfl
 | e::r,h=>by simp only[vG,EP,GU,Bool.not_eq_false']at h;simp only[Md];cases a:Region.binds .any e;exact pJ h.2;simp only[wD,O3,ZM];refine⟨h.1.resolve_left (by rw[a];simp),pJ h.2⟩
def Qeo{F}:∀{l:List Mc},Tm F l->∀e∈l,F e
 | [],_,e,he=>by cases he
 | x::r,h,e,he=>by rcases QK.1 he with rfl|he;exact h.1;exact Qeo h.2 e he
def pK{a:Array Oper}{i}{o:Oper}(b:a[i]?=some o):∀{R:List Nat},i∈R->(i,qB (Vh i nc) o,guardOf a o,Md o.after.toList)∈ky nc a R
 | [],h=>by cases h
 | j::r,h=>by simp only[ky];rcases QK.1 h with rfl|h;rw[b];exact Jo ..;split;exact Js _ (pK b h);exact pK b h
def fm{a i}:∀{R:List Nat},i ∉ R->DL i (ky nc a R)=ky nc a R
 | [],_=>rfl
 | j::r,h=>by
  simp only[QK,q6]at h;simp only[ky];split;simp only[DL];have:Nat.beq j i=false:=by rw[<-Yx,Wz];exact λe=>h.1 e.symm
  rw[this,ju,fm h.2];exact fm h.2
def pL{a i}:∀{R:List Nat},R.Nodup->DL i (ky nc a R)=ky nc a (R.erase i)
 | [],_=>rfl
 | j::r,h=>by
  obtain⟨d,c⟩:=Z6.1 h;by_cases b:j=i;subst b;rw[List.erase_cons_head];simp only[ky];split;simp only[DL,Om,wD];exact fm d;exact fm d;rw[List.erase_cons_tail (zC b)];have e:Nat.beq j i=false:=by rw[<-Yx,Wz];exact b
  simp only[ky];cases f:a[j]? with
  | some o=>simp only[DL,e,ju,pL c]
  | none=>simp only[pL c]
def pM(d:q9 P X)(c:base<=w0.w.heap.size){a g}(e:∀s,K s->g s):∀(m:Nat) (R done:List Nat) (s:St),R.Nodup->FB P base w0 X nt K m (ky nc a R) done s->Fw nc P base nt w0 a g m R done s
 | 0,_,_,s,_,h=>e s h
 | m+1,R,done,s,b,h=>by intro i q o p r;have f:=Qeo h _ (pK p q);simp only[pJ r]at f;refine AX.mono (λs j=>pM d c e m (R.erase i) (i::done) s (b.erase _) ?_) _ _ (Fy d c _ _ f);rw[<-pL b];exact j
def Qep(nc){f a}(c:q9 P X)(b:base<=w0.w.heap.size)(n)(g:P.follows .mixedOrders=true)(l R)(e:DK nc X.L a l R=true)(i:B9 a s.fr=true)
  (h:Vi P base w0 X nt (FB P base w0 X nt (O1 P base w0 Q X nt n k) R.length (ky nc a R) (l.map (·.1))) (Vo nc a l) s):QA P base nt w0 Q (.code (.region f a true)::k) .normal s:=by
 have j:R.Nodup:=by simp only[DK,ZM]at e;exact(fh e.1.2).1
 exact Qeh c.L b g l R e i (AX.mono (λs d=>pM c b (λs d=>FA c b n d) _ _ _ s j d) _ _ (Fy c b _ _ h))
def QH3{b a}(e:q9 P X)(d:base<=w0.w.heap.size)(n)(c:P.follows .mixedOrders=true)(l R)(g:DK [] X.L a l R=true)(f:B9 a s.fr=true)
  (h:Vi P base w0 X nt (FB P base w0 X nt (O1 P base w0 Q X nt n k) R.length (ky [] a R) (l.map (·.1))) (Vo [] a l) s):QA P base nt w0 Q (.code (.region b a true)::k) .normal s:=Qep [] e d n c l R g f h
theorem QH4{i}:Region.binds .any ⟨i,.data⟩=true:=rfl
theorem QH5{i}:Region.binds .any ⟨i,.chain⟩=true:=rfl
theorem QH6{i}:Region.binds .any ⟨i,.guard⟩=true:=rfl
theorem QH7{i}:Region.binds .any ⟨i,.phase⟩=true:=rfl
theorem QH8{i d}:Region.binds .any ⟨i,.textOnly d⟩=false:=rfl
theorem QH9{i d}:Region.binds .any ⟨i,.gcOnly d⟩=false:=rfl
theorem QIa{a d}:FB P base w0 X nt K 0 a d s=K s:=Vp rfl
attribute[go_sem]QH4 QH5 QH6 QH7 QH8 QH9 QIa
@[go_sem] theorem QIb{m a d}:FB P base w0 X nt K (m+1) a d s=Tm (λe=>match O3 d e.2.2.2 with
  | true=>Vi P base w0 X nt (FB P base w0 X nt K m (DL e.1 a) (e.1::d)) [(false,e.2.1,e.2.2.1)] s
  | false=>True) a:=Vp rfl
end
def Tn(P:Program)(a d:Nat)(b:Start)(Q:Exit->St->Prop)(k:List Item)(S:Nat->St->Prop)(N i:Nat):Exit->St->Prop
 | .normal,s=>i<N/\∃c,Qs b s c/\S (i+1) c
 | e,s=>QA P a d b Q k e s
section
variable {P:Program}{base nt:Nat}{w0:Start}{Q:Exit->St->Prop}{k:List Item}{s:St}
theorem QIc{S N i}:Tn P base nt w0 Q k S N i .normal s=(i<N/\∃a,Qs w0 s a/\S (i+1) a):=Vp rfl
theorem QId{S N i j}:Tn P base nt w0 Q k S N i (.exit j) s=QA P base nt w0 Q k (.exit j) s:=Vp rfl
theorem QIe{S N i}:Tn P base nt w0 Q k S N i .ret s=QA P base nt w0 Q k .ret s:=Vp rfl
attribute[go_sem]QIc QId QIe
def ZY{c}(S N){s0}(d:Qs w0 s s0)(j:S 0 s0)(a:∀i s,i<=N->S i s->QA P base nt w0 (Tn P base nt w0 Q k S N i) [.code c] .normal s):QA P base nt w0 Q (.code (.loop c)::k) .normal s:=by
 refine Hy (λm s=>∃i,i+m=N/\S i s) N d ⟨0,ω,j⟩ ?_;rintro m s ⟨i,o,f⟩;have:=a i s ω f;simp only[QA]at this ⊢;refine this.mono λe n b=>?_;cases e with
 | normal=>obtain⟨p,l,h,g⟩:=b;exact⟨m-1,l,ω,h,i+1,ω,g⟩
 | _=>exact b
end
def DM{P a d b Q l k s c}(h:Qs b s c)(e:QA P a d b Q (.ops l::k) .normal c):QA P a d b Q (.ops l::k) .normal s:=by simp only[QA]at e ⊢;exact e.YV h
attribute [go_sem] qB ky Md DL O3 Vh Tm Vo KN false_implies imp_self ne_eq not_false_eq_true not_true_eq_false Nat.one_ne_zero
theorem QIf(v):D.VF (.raw v)=AM v:=rfl
theorem QIg  : D.VF (.nil)=true:=rfl
theorem QIh  : D.VF (.undef)=false:=rfl
theorem QIi(z n r):D.VF (.imm z n r)=true:=rfl
theorem QIj(c):D.VF (.ip c)=true:=rfl
theorem QIk(l g o n):D.VF (.ref l g o n)=true:=rfl
theorem QIl(l g i j):D.VF (.ptr l g i j)=true:=rfl
theorem QIm(l g):D.VF (.mref l g)=true:=rfl
theorem QIn(f n c):D.VF (.clo f n c)=true:=rfl
theorem QIo(c):D.VF (.agg c)=false:=rfl
theorem QIp(c):D.VF (.tup c)=false:=rfl
theorem QIq(v):YA (.raw v)=bif D.VF (.raw v) then some [.raw v] else none:=rfl
theorem QIr  : YA (.nil)=bif D.VF (.nil) then some [.nil] else none:=rfl
theorem QIs  : YA (.undef)=bif D.VF (.undef) then some [.undef] else none:=rfl
theorem QIt(z n r):YA (.imm z n r)=bif D.VF (.imm z n r) then some [.imm z n r] else none:=rfl
theorem QIu(c):YA (.ip c)=bif D.VF (.ip c) then some [.ip c] else none:=rfl
theorem QIv(l g o n):YA (.ref l g o n)=bif D.VF (.ref l g o n) then some [.ref l g o n] else none:=rfl
theorem QIw(l g i j):YA (.ptr l g i j)=bif D.VF (.ptr l g i j) then some [.ptr l g i j] else none:=rfl
theorem QIx(l g):YA (.mref l g)=bif D.VF (.mref l g) then some [.mref l g] else none:=rfl
theorem QIy(f n c):YA (.clo f n c)=bif D.VF (.clo f n c) then some [.clo f n c] else none:=rfl
theorem QIz(c:List D):YA (.agg c)=bif c.all D.VF then some c else none:=rfl
theorem QIA(c):YA (.tup c)=bif D.VF (.tup c) then some [.tup c] else none:=rfl
theorem QIB(a v):Ym a (.raw v)=(a=.raw v):=rfl
theorem QIC(a)  : Ym a (.nil)=(a=.nil):=rfl
theorem QID(a)  : Ym a (.undef)=(a=.undef):=rfl
theorem QIE(a c z n b r):Ym (.imm a c b) (.imm z n r)=(a=z/\c=n/\∀i,i<n->b i=r i):=rfl
theorem QIF(a c):Ym a (.ip c)=(a=.ip c):=rfl
theorem QIG(a l g o n):Ym a (.ref l g o n)=(a=.ref l g o n):=rfl
theorem QIH(a l g i j):Ym a (.ptr l g i j)=(a=.ptr l g i j):=rfl
theorem QII(a l g):Ym a (.mref l g)=(a=.mref l g):=rfl
theorem QIJ(a f n c):Ym a (.clo f n c)=(a=.clo f n c):=rfl
theorem QIK(a c):Ym a (.agg c)=(a=.agg c):=rfl
theorem QIL(a c):Ym a (.tup c)=(a=.tup c):=rfl
attribute[go_sem]QIf QIg QIh QIi QIj QIk QIl QIm QIn QIo QIp QIq QIr QIs QIt QIu QIv QIw QIx QIy QIz QIA QIB QIC QID QIE QIF QIG QIH QII QIJ QIK QIL
end Go.Fg
namespace Go.Fg
open Go.RowKit (Below)
def pos(l:Nat):List Nat->Nat
 | []=>0
 | k::r=>bif Nat.beq k l then 0 else pos l r+1
mutual
def D.Yn(a:List Nat):D->D
 | .ref l g c e=>.ref (pos l a) g c e
 | .ptr l g i j=>.ptr (pos l a) g i j
 | .mref l g=>.mref (pos l a) g
 | .clo f h b=>.clo f h (zY a b)
 | .agg b=>.agg (zY a b)
 | .tup b=>.tup (zY a b)
 | d=>d
def zY(a:List Nat):List D->List D
 | []=>[]
 | c::b=>c.Yn a::zY a b
end
mutual
def D.Cb(a:List Nat):D->Bool
 | .ref l _ _ _=>Vh l a
 | .ptr l _ _ _=>Vh l a
 | .mref l _=>Vh l a
 | .clo _ _ b=>yM a b
 | .agg b=>yM a b
 | .tup b=>yM a b
 | _=>true
def yM(a:List Nat):List D->Bool
 | []=>true
 | c::b=>c.Cb a&&yM a b
end
def Me{l}:∀{Qp:List Nat},Vh l Qp=true->Qp[pos l Qp]?=some l
 | [],h=>by cases h
 | k::r,h=>by
  simp only[pos];by_cases e:k=l;subst e;simp;have b:Nat.beq k l=false:=by rw[<-Yx,Wz];exact e
  have a:Nat.beq l k=false:=by rw[<-Yx,Wz];exact λx=>e x.symm
  simp only[Vh,a,GV]at h;simp[b,Me h]
def vI(b):∀a:List D,(zY b a).length=a.length
 | []=>rfl
 | _::a=>by simp[zY,vI b a]
def FC(b):∀(a:List D) (i:Nat),i<a.length->nth (zY b a) i=(nth a i).Yn b
 | [],i,h=>by simp at h
 | c::a,0,_=>by simp[zY,nth]
 | c::a,i+1,h=>by have:=FC b a i (zC h);simpa[zY,nth] using this
def O5{c}:∀{b:List D},yM c b=true->∀i,i<b.length->(nth b i).Cb c=true
 | [],_,i,h=>by simp at h
 | d::r,a,i,h=>by
  simp only[yM,ZM]at a;cases i with
  | zero=>exact a.1
  | succ i=>have:=O5 a.2 i (zC h);simpa[nth] using this
def Ob.Yn(a:List Nat)(o:Ob):Ob:=⟨o.kd,o.gen,o.sz,o.n,λi=>zY a (o.row i)⟩
def qC(h:List Ob):List Nat->List Ob
 | []=>[]
 | i::r=>match h[i]? with
  | some o=>o::qC h r
  | none=>[]
def vJ(a:List Pl):List Nat->List Pl
 | []=>[]
 | i::r=>match a[i]? with
  | some o=>o::vJ a r
  | none=>[]
def Xb(n:Nat):List Nat->Bool
 | []=>true
 | i::r=>Nat.blt i n&&Xb n r
def A5:List Nat->Bool
 | []=>true
 | i::r=>!Vh i r&&A5 r
def Qeq{n}:∀{l:List Nat},Xb n l=true->∀i∈l,i<n
 | [],_,i,h=>by cases h
 | k::r,h,i,a=>by simp only[Xb,ZM,xH]at h;rcases QK.1 a with e|e;subst e;exact h.1;exact Qeq h.2 i e
def Qer:∀{l:List Nat},A5 l=true->∀(i j x:Nat),l[i]?=some x->l[j]?=some x->i=j
 | [],_,i,j,x,h,_=>by simp at h
 | k::r,h,i,j,x,b,a=>by
  simp only[A5,ZM,qV]at h;have c:k ∉ r:=λd=>by rw[xQ.2 d]at h;cases h.1
  cases i with
  | zero=>
   simp at b;subst b;cases j with
   | zero=>rfl
   | succ j=>simp at a;exact absurd (Oh a) c
  | succ i=>
   simp at b;cases j with
   | zero=>simp at a;subst a;exact absurd (Oh b) c
   | succ j=>simp at a;rw[Qer h.2 i j x b a]
def Mf{h:List Ob}:∀{Qp:List Nat},Xb h.length Qp=true->∀(i l:Nat),Qp[i]?=some l->(qC h Qp)[i]? = h[l]?
 | [],_,i,l,e=>by simp at e
 | k::r,a,i,l,e=>by
  simp only[Xb,ZM,xH]at a;simp only[qC,QH a.1];cases i with
  | zero=>simp at e;subst e;simp[QH a.1]
  | succ i=>simp at e;simpa using Mf a.2 i l e
def Cc{h:List Pl}:∀{Qp:List Nat},Xb h.length Qp=true->∀(i l:Nat),Qp[i]?=some l->(vJ h Qp)[i]? = h[l]?
 | [],_,i,l,e=>by simp at e
 | k::r,a,i,l,e=>by
  simp only[Xb,ZM,xH]at a;simp only[vJ,QH a.1];cases i with
  | zero=>simp at e;subst e;simp[QH a.1]
  | succ i=>simp at e;simpa using Cc a.2 i l e
def fo{h:List Ob}:∀{Qp:List Nat},Xb h.length Qp=true->(qC h Qp).length=Qp.length
 | [],_=>rfl
 | k::r,a=>by simp only[Xb,ZM,xH]at a;simp[qC,QH a.1,fo a.2]
def O6{h:List Pl}:∀{Qp:List Nat},Xb h.length Qp=true->(vJ h Qp).length=Qp.length
 | [],_=>rfl
 | k::r,a=>by simp only[Xb,ZM,xH]at a;simp[vJ,QH a.1,O6 a.2]
def QF.Qp{Z O}{h:List Ob}{u:List Pl}{w k}(W:∀b,free Z u b->O b)(s:u.length=h.length)(H:Xb h.length k=true){d:D}{v}(r:QF Z h u w d v)(F:d.Cb k=true):
  QF O ((qC h k).map (Ob.Yn k)) (vJ u k) w (d.Yn k) v:=by
 have I:Xb u.length k=true:=by rw[s];exact H
 have Yk:∀b,free Z u b->free O (vJ u k) b:=λb T=>⟨W b T,λl q e=>by
  have Qb:l<k.length:=by rw[<-O6 I];exact WA e
  rw[Cc I l (k[l]) (QH Qb)]at e;exact T.2 _ q e⟩
 have Zw:∀(d:D) (v:Value),Cl (free Z u) w d v->QF O ((qC h k).map (Ob.Yn k)) (vJ u k) w (d.Yn k) v:=by
  intro d v z;have U:=z.mono (N':=free O (vJ u k)) (w':=w) (λb H _=>⟨Yk b H,rfl⟩);clear z;induction U with
  | raw v=>exact .cl _ _ (.raw v)
  | undef v=>exact .cl _ _ (.undef v)
  | nil a=>exact .cl _ _ (.nil a)
  | imm V n Q a C b o m Y s B z x t=>exact .cl _ _ (.imm V n Q a C b o m Y s B z x)
  | ip E b o m z x t=>exact .cl _ _ (.ip E b o m z x)
  | clo f P N m s x t=>exact .clo f P _ m (by rw[vI];exact s) (λi c=>by rw[vI]at c;rw[FC _ _ _ c];exact t i c)
  | agg N m s x t=>exact .agg _ m (by rw[vI];exact s) (λi c=>by rw[vI]at c;rw[FC _ _ _ c];exact t i c)
  | tup N m s x t=>exact .tup _ m (by rw[vI];exact s) (λi c=>by rw[vI]at c;rw[FC _ _ _ c];exact t i c)
 induction r with
 | cl d v z=>exact Zw d v z
 | ref l g R S o p a C L K J M B=>
  have y:Vh l k=true:=by simpa[D.Cb] using F
  exact .ref _ g R S (o.Yn k) p a C (by rw[KR,Mf H _ l (Me y),L];rfl) (by rw[Cc I _ l (Me y),K]) J M B
 | ptr l g i j o p a L K J M B=>
  have y:Vh l k=true:=by simpa[D.Cb] using F
  exact .ptr _ g i j (o.Yn k) p a (by rw[KR,Mf H _ l (Me y),L];rfl) (by rw[Cc I _ l (Me y),K]) J M B
 | mref l g o p b L K J M B=>
  have y:Vh l k=true:=by simpa[D.Cb] using F
  exact .mref _ g (o.Yn k) p b (by rw[KR,Mf H _ l (Me y),L];rfl) (by rw[Cc I _ l (Me y),K]) J M B
 | clo f P N m s x t=>exact .clo f P _ m (by rw[vI];exact s) λi c=>by rw[vI]at c;rw[FC _ _ _ c];exact t i c (O5 (by simpa[D.Cb] using F) i c)
 | agg N m s x t=>exact .agg _ m (by rw[vI];exact s) λi c=>by rw[vI]at c;rw[FC _ _ _ c];exact t i c (O5 (by simpa[D.Cb] using F) i c)
 | tup N m s x t=>exact .tup _ m (by rw[vI];exact s) λi c=>by rw[vI]at c;rw[FC _ _ _ c];exact t i c (O5 (by simpa[D.Cb] using F) i c)
def Mg(a:List Nat):List Ob->Prop
 | []=>True
 | o::r=>(∀i,i<o.n->yM a (o.row i)=true)/\Mg a r
def Qes{a}:∀{h:List Ob},Mg a h->∀(l:Nat) (o:Ob),h[l]?=some o->∀i,i<o.n->yM a (o.row i)=true
 | [],_,l,o,e=>by simp at e
 | o::r,h,l,u,e=>by
  cases l with
  | zero=>simp at e;subst e;exact h.1
  | succ l=>simp at e;exact Qes h.2 l u e
def Zo.Qp{Z F c}{h:List Ob}{g w a}(R:Zo Z c h g w)(L:∀b,free Z g b->F b)(r:Xb h.length a=true)(O:A5 a=true)(P:Mg a (qC h a)):
  Zo F c ((qC h a).map (Ob.Yn a)) (vJ g a) w:=by
 have t:Xb g.length a=true:=by rw[R.len];exact r
 have s:∀(i:Nat) (p:Pl),(vJ g a)[i]?=some p->∃l,a[i]?=some l/\g[l]?=some p:=λi p e=>by
  have Qb:i<a.length:=by rw[<-O6 t];exact WA e
  exact⟨a[i],QH Qb,by rw[<-Cc t i _ (QH Qb)];exact e⟩
 have E:∀(i:Nat) (o:Ob),((qC h a).map (Ob.Yn a))[i]?=some o->∃l u,a[i]?=some l/\h[l]?=some u/\o=u.Yn a/\(qC h a)[i]?=some u:=λi o e=>by
  rw[KR,WK]at e;obtain⟨u,f,rfl⟩:=e;have Qb:i<a.length:=by rw[<-fo r];exact KL f
  exact⟨a[i],u,QH Qb,by rw[<-Mf r i _ (QH Qb)];exact f,rfl,f⟩
 refine⟨by rw[O6 t,KJ,fo r],λi K b q I T S=>?_,λi o B z=>?_,λi o b q B z=>?_⟩;obtain⟨l,m,J⟩:=s _ _ T;obtain⟨y,d,n⟩:=s _ _ S;have:=R.inj l y b q I J n;subst this;exact Qer O i K l m d;obtain⟨l,u,m,f,rfl,_⟩:=E _ _ B;obtain⟨y,d,n⟩:=s _ _ z;rw[m]at d;cases d;exact R.V7 l u f n;obtain⟨l,u,m,f,rfl,H⟩:=E _ _ B;obtain⟨y,d,n⟩:=s _ _ z;rw[m]at d;cases d;obtain⟨Q,x⟩:=R.at_ l u b q f n;refine⟨Q,x.to rfl rfl rfl rfl (λk _=>vI _ _) λk j v N C M=>?_⟩;show QF _ _ _ _ (nth (zY a (u.row k)) j) v;rw[FC _ _ _ C];exact M.Qp L R.len r (O5 (Qes P i u H k N) j C)
def Qet{c:List Pl}{a}(d:Xb c.length a=true){b}(h:XL c b):XL (vJ c a) b:=λl q e=>by
 have Qb:l<a.length:=by rw[<-O6 d];exact WA e
 rw[Cc d l (a[l]) (QH Qb)]at e;exact h _ q e
def pN(a:List Nat)(R:D->List Ob->Prop)(d:D)(h:List Ob):Prop:=d.Cb a=true/\Xb h.length a=true/\Mg a (qC h a)/\R (d.Yn a) ((qC h a).map (Ob.Yn a))
def Tp:Nat->Nat->List Nat->Bool
 | 0,_,_=>true
 | _+1,_,[]=>false
 | m+1,i,k::r=>Nat.beq k i&&Tp m (i+1) r
def Qeu:∀{m i:Nat} {Qp:List Nat},Tp m i Qp=true->∀l,l<m->Qp[l]?=some (i+l)
 | 0,_,_,_,l,a=>ω
 | m+1,i,[],h,_,_=>by cases h
 | m+1,i,k::r,h,l,a=>by
  simp only[Tp,ZM]at h;obtain rfl:=Sw h.1;cases l with
  | zero=>simp
  | succ l=>rw[List.getElem?_cons_succ,Qeu h.2 l ω];congr 1;omega
def QO.Qp{P f}{F:List Ob}{a R}(b)(y:A5 b=true)(t:Tp F.length 0 b=true)(h:QO P f F a (pN b R)):QO P f F a R:=λZ g w m k H E C j z=>
 (h Z g w m k H E C j z).mono λ_ _ ⟨v,d,M,L,s,⟨K,c,J,I⟩,i,r,q,n⟩=>⟨v,d.Yn b,_,vJ L b,s,I,i.Qp (λ_ h=>h.1) c y J,r.Qp (λ_ h=>h.1) i.len c K,
  q.keep (Qv _) ⟨λ_ B=>Qet (by rw[i.len];exact c) B,λl o p j x u=>by have e:=Qeu t l j;rw[JG]at e;exact⟨o.Yn b,by rw[KR,Mf c l l e,x];rfl,by rw[Cc (by rw[i.len];exact c) l l e,u],rfl,rfl,rfl⟩⟩,n⟩
def pO(g)(l:A5 g=true){P:Program}{X}(o:q9 P X){f}{d:Func}{c}(n)(k:P.funcs[f]?=some d)(m:d.body=some c){a:List D}{R e i}(p:d.ntmps=e)(q:d.results=i)(j:Nat.ble a.length e=true)
  (h:∀(b:Nat) (w:World),b<=w.heap.size->hx P b ⟨w,[],[]⟩ (AW X.L i.toList (pN g R)) X e n [.code c] ⟨kx a 0,[]⟩):QM P f a R:=
 QO.Qp g l rfl (pH o n k m p q j h)
attribute [go_sem] pN pos D.Yn zY D.Cb yM Ob.Yn qC Xb Mg Vh
mutual
def D.idx(a:Nat->Nat):D->D
 | .ref l g c e=>.ref (a l) g c e
 | .ptr l g i j=>.ptr (a l) g i j
 | .mref l g=>.mref (a l) g
 | .clo f h b=>.clo f h (A7 a b)
 | .agg b=>.agg (A7 a b)
 | .tup b=>.tup (A7 a b)
 | d=>d
def A7(a:Nat->Nat):List D->List D
 | []=>[]
 | c::b=>c.idx a::A7 a b
end
def xS(b):∀a:List D,(A7 b a).length=a.length
 | []=>rfl
 | _::a=>by simp[A7,xS b a]
def HA(b):∀(a:List D) (i:Nat),i<a.length->nth (A7 b a) i=(nth a i).idx b
 | [],i,h=>by simp at h
 | c::a,0,_=>by simp[A7,nth]
 | c::a,i+1,h=>by have:=HA b a i (zC h);simpa[A7,nth] using this
def Ob.idx(a:Nat->Nat)(o:Ob):Ob:=⟨o.kd,o.gen,o.sz,o.n,λi=>A7 a (o.row i)⟩
def QF.idx{Z P h R N L w}(M)(hf:∀b,free Z N b->free P L b)
  (S:∀(l:Nat) (o:Ob) (p:Pl),h[l]?=some o->N[l]?=some p->∃q,R[M l]?=some q/\L[M l]?=some p/\q.gen=o.gen/\q.sz=o.sz/\q.kd.ty=o.kd.ty) {d:D} {v:Value} (r:QF Z h N w d v):QF P R L w (d.idx M) v:=by
 have Zw:∀(d:D) (v:Value),Cl (free Z N) w d v->QF P R L w (d.idx M) v:=by
  intro d v t;have W:=t.mono (N':=free P L) (w':=w) (λb hb _=>⟨hf b hb,rfl⟩);clear t;induction W with
  | raw v=>exact .cl _ _ (.raw v)
  | undef v=>exact .cl _ _ (.undef v)
  | nil a=>exact .cl _ _ (.nil a)
  | imm Y n T a y b o e ha m x t s k=>exact .cl _ _ (.imm Y n T a y b o e ha m x t s)
  | ip z b o e t s k=>exact .cl _ _ (.ip z b o e t s)
  | clo f Q K e m s k=>exact .clo f Q _ e (by rw[xS];exact m) (λi c=>by rw[xS]at c;rw[HA _ _ _ c];exact k i c)
  | agg K e m s k=>exact .agg _ e (by rw[xS];exact m) (λi c=>by rw[xS]at c;rw[HA _ _ _ c];exact k i c)
  | tup K e m s k=>exact .tup _ e (by rw[xS];exact m) (λi c=>by rw[xS]at c;rw[HA _ _ _ c];exact k i c)
 induction r with
 | cl d v t=>exact Zw d v t
 | ref l g U V o p a y C B E F x=>obtain⟨q,J,I,u,O,H⟩:=S l o p C B;exact .ref _ g U V q p a y J I (by rw[H];exact E) (by rw[u];exact F) (by rw[u,O];exact x)
 | ptr l g i j o p a C B E F x=>obtain⟨q,J,I,u,O,H⟩:=S l o p C B;exact .ptr _ g i j q p a J I (by rw[H];exact E) (by rw[u];exact F) (by rw[u,O];exact x)
 | mref l g o p b C B E F x=>obtain⟨q,J,I,u,O,H⟩:=S l o p C B;exact .mref _ g q p b J I (by rw[H];exact E) (by rw[u];exact F) (by rw[u];exact x)
 | clo f Q K e m s k=>exact .clo f Q _ e (by rw[xS];exact m) (λi c=>by rw[xS]at c;rw[HA _ _ _ c];exact k i c)
 | agg K e m s k=>exact .agg _ e (by rw[xS];exact m) (λi c=>by rw[xS]at c;rw[HA _ _ _ c];exact k i c)
 | tup K e m s k=>exact .tup _ e (by rw[xS];exact m) (λi c=>by rw[xS]at c;rw[HA _ _ _ c];exact k i c)
def Xm(n:Nat):List Nat->Nat->Nat
 | [],i=>n+i
 | k::_,0=>k
 | _::r,i+1=>Xm n r i
def Yo{a:Type}(h:List a):List Nat->List a->List a
 | [],b=>h++b
 | k::r,x::b=>Yo (h.set k x) r b
 | _::_,[]=>h
def fp{n}:∀{Qp:List Nat} {i l:Nat},Qp[i]?=some l->Xm n Qp i=l
 | [],i,l,h=>by simp at h
 | k::r,0,l,h=>by simp at h;simp[Xm,h]
 | k::r,i+1,l,h=>by simp at h;simp[Xm,fp h]
def Qev{n}:∀{Qp:List Nat} {i:Nat},Xm n Qp (Qp.length+i)=n+i
 | [],i=>by simp[Xm]
 | k::r,i=>by rw[show (k::r).length+i=(r.length+i)+1 by simp;omega];simp only[Xm];exact Qev
def pP{n:Type}:∀{Qp:List Nat} {h a:List n},Xb h.length Qp=true->A5 Qp=true->Qp.length<=a.length->∀(i:Nat),i<a.length->(Yo h Qp a)[Xm h.length Qp i]? = a[i]?
 | [],h,a,_,_,_,i,f=>by simp only[Yo,Xm];rw[Ks ω];congr 1;omega
 | k::r,h,[],_,_,o,i,f=>by simp at f
 | k::r,h,x::a,l,g,o,i,f=>by
  simp only[Xb,ZM,xH]at l;simp only[A5,ZM,qV]at g;simp only[Yo];have b:(h.set k x).length=h.length:=σ;cases i with
  | zero=>
   have s:k ∉ r:=λd=>by rw[xQ.2 d]at g;cases g.1
   have m:∀(r:List Nat) (c a:List n),k ∉ r->k<c.length->(Yo c r a)[k]? = c[k]? := by
    intro r;induction r with
    | nil=>intro c a _ Qb;simp only[Yo];rw[JX Qb]
    | cons j r q=>
     intro c a d Qb;cases a with
     | nil=>rfl
     | cons y p=>simp only[Yo];rw[q (c.set j y) p (λt=>d (Js _ t)) (zC Qb),JT (λe=>d (by rw[e];exact Jo))]
   simp only[Xm];rw[m r (h.set k x) a s (by simpa using l.1)];simp[l.1]
  | succ i=>simp only[Xm];rw[<-b];exact pP (by rw[b];exact l.2) g.2 (zC o) i (zC f)
def O7{d:Type}:∀{Qp:List Nat} {h b:List d} {l:Nat},l<h.length->l ∉ Qp->(Yo h Qp b)[l]? = h[l]?
 | [],h,b,l,a,_=>by simp only[Yo];rw[JX a]
 | k::r,h,[],l,a,_=>rfl
 | k::r,h,x::b,l,a,c=>by simp only[Yo];rw[O7 (zC a) (λf=>c (Js _ f)),JT (λe=>c (by rw[e];exact Jo))]
def fq{c:Type}:∀{Qp:List Nat} {h a:List c},Qp.length<=a.length->(Yo h Qp a).length=h.length+(a.length-Qp.length)
 | [],h,a,_=>by simp[Yo]
 | k::r,h,[],b=>by simp at b
 | k::r,h,x::a,b=>by simp only[Yo];rw[fq (zC b)];simp
def QqA{d:Type}{a:List Nat}{h b:List d}(j:Xb h.length a=true)(g:a.length<=b.length){l}(k:l<h.length+(b.length-a.length)):
  (∃i,i<b.length/\l=Xm h.length a i)\/(l<h.length/\l ∉ a):=by
 by_cases Qb:l<h.length;by_cases c:l∈a;obtain⟨i,f,e⟩:=j8 c;exact .inl ⟨i,ω,(fp (by rw[QH f,e])).symm⟩;exact .inr ⟨Qb,c⟩;refine .inl ⟨a.length+(l-h.length),ω,?_⟩;rw[Qev];omega
section
variable {P:Program}{base nt:Nat}{w0:Start}{Q:Exit->St->Prop}
def kz(h:List Ob)(a:List Nat)(b:List Ob):List Ob:=Yo h a (b.map (Ob.idx (Xm h.length a)))
def QqB{Z}{s:St}{f}{w J:World}{a}(R:Zo Z base s.h f w)(Q6:base<=w.heap.size)(hz:∀b,w.heap.size<=b->Z b)(hb:Xb s.h.length a=true)(hd:A5 a=true)
  {n:List Ob} {m:List Pl} {d:D} {v:Value} {F:List Ob} (hF:F.length=a.length) (a1:∀(i:Nat) (o u:Ob),F[i]?=some o->(∃l,a[i]?=some l/\s.h[l]?=some u)->o.gen=u.gen/\o.sz=u.sz/\o.kd.ty=u.kd.ty)
  (O':Zo (λb=>Z b/\∀l q,f[l]?=some (some (b,q))->l∈a) base n m J) (V':QF (λb=>Z b/\∀l q,f[l]?=some (some (b,q))->l∈a) n m J d v)
  (T:Tr F (vJ f a) w n m J) (B:Below base w J) :
  Tr s.h f w (kz s.h a n) (Yo f a m) J/\Zo Z base (kz s.h a n) (Yo f a m) J/\QF Z (kz s.h a n) (Yo f a m) J (d.idx (Xm s.h.length a)) v:=by
 have M:Xb f.length a=true:=by rw[R.len];exact hb
 have pQ:m.length=n.length:=O'.len;have O8:∀(i l:Nat),a[i]?=some l->∃u p E N,s.h[l]?=some u/\f[l]?=some p/\n[i]?=some E/\m[i]?=some N/\u.gen<=E.gen/\E.kd.ty=u.kd.ty/\(E.gen=u.gen->E.sz=u.sz/\N=p):=by
  intro i l e;have t:i<a.length:=(Xh.1 e).1;have hl:l<s.h.length:=Qeq hb l (Oh e);have S:F[i]?=some (F[i]'ω):=QH _;have g:s.h[l]?=some s.h[l]:=QH hl;have JY:l<f.length:=by rw[R.len];exact hl
  have C:f[l]?=some f[l]:=QH JY;obtain⟨V,k2,K⟩:=a1 i _ _ S ⟨l,e,g⟩;obtain⟨E,N,t1,t2,t3,t4,t5⟩:=T.obj i _ f[l] S (by rw[Cc M i l e,C]);exact⟨_,_,E,N,g,C,t1,t2,ω,by rw[t4,K],λx=>by obtain⟨y,z⟩:=t5 ω;exact⟨by rw[y,k2],z⟩⟩
 have Cd:a.length<=n.length:=by rcases Nat.eq_zero_or_pos a.length with h0|h0;omega;obtain⟨_,_,E,_,_,_,h3,_⟩:=O8 (a.length-1) _ (QH ω);have:=KL h3;omega
 have ft:a.length<=m.length:=ω;have hN:s.h.length=f.length:=R.len.symm;have fu:∀i,i<m.length->(Yo f a m)[Xm s.h.length a i]? = m[i]? := λi t=>by rw[hN];exact pP M hd ft i t
 have Tq:∀i,i<n.length->(kz s.h a n)[Xm s.h.length a i]? = (n[i]?).map (Ob.idx (Xm s.h.length a)):=λi t=>by unfold kz;rw[pP hb hd (zC Cd) i (zC t),KR]
 have r:∀(l b q:Nat),l ∉ a->f[l]?=some (some (b,q))->XL m b/\J.heap[b]? = w.heap[b]? := λl b q L e=>by
  refine T.Kz b (λi Y e'=>?_) (R.lt e).1;have t:i<a.length:=by rw[<-O6 M];exact WA e'
  have g:a[i]?=some a[i]:=QH t;rw[Cc M i _ g]at e';have:=R.inj _ _ _ _ _ e e';exact L (by rw[this];exact XK t)
 have W:∀(l:Nat) (p:Pl),(Yo f a m)[l]?=some p->(∃i,i<m.length/\l=Xm s.h.length a i/\m[i]?=some p)\/(l<f.length/\l ∉ a/\f[l]?=some p):=λl p e=>by have Qb:=WA e;rw[fq ft]at Qb;rcases QqA M ft Qb with ⟨i,t,rfl⟩|⟨O,I⟩;rw[hN]at fu ⊢;exact .inl ⟨i,t,rfl,by rw[<-fu i t];exact e⟩;exact .inr ⟨O,I,by rw[O7 O I]at e;exact e⟩
 have OQ:∀b,free (λb=>Z b/\∀l q,f[l]?=some (some (b,q))->l∈a) m b->free Z (Yo f a m) b:=λb hf=>⟨hf.1.1,λl q e=>by rcases W l _ e with ⟨i,_,_,g⟩|⟨_,I,g⟩;exact hf.2 i q g;exact I (hf.1.2 l q g)⟩
 have Zm:∀(l:Nat) (o:Ob) (p:Pl),n[l]?=some o->m[l]?=some p->∃E,(kz s.h a n)[Xm s.h.length a l]?=some E/\(Yo f a m)[Xm s.h.length a l]?=some p/\E.gen=o.gen/\E.sz=o.sz/\E.kd.ty=o.kd.ty:=λl o p h H=>⟨o.idx (Xm s.h.length a),by rw[Tq l (KL h),h];rfl,by rw[fu l (WA H),H],rfl,rfl,rfl⟩
 have T2:Tr s.h f w (kz s.h a n) (Yo f a m) J:=by
  refine⟨λb a0 Qb=>?_,λl o p h H=>?_,λl o E b q h ZR hg H c el hc=>?_⟩;obtain⟨O,I⟩:=T.Kz b (Qet M a0) Qb;refine⟨λl q e=>?_,I⟩;rcases W l _ e with ⟨i,_,_,g⟩|⟨_,_,g⟩;exact O i q g;exact a0 l q g;by_cases L:l∈a;obtain⟨i,t,e⟩:=j8 L;have g:a[i]?=some l:=by rw[QH t,e]
  obtain⟨u,p1,E,N,V,k2,K,k4,k5,k6,k7⟩:=O8 i l g;rw[h]at V;cases V;rw[H]at k2;cases k2;have HB:Xm s.h.length a i=l:=fp g;refine⟨E.idx (Xm s.h.length a),N,by rw[<-HB,Tq i (KL K),K];rfl,by rw[<-HB,fu i (WA k4),k4],k5,k6,k7⟩;exact⟨o,p,by unfold kz;rw[O7 (KL h) L];exact h,by rw[O7 (WA H) L];exact H,Qv _,rfl,λ_=>⟨rfl,rfl⟩⟩;by_cases L:l∈a;obtain⟨i,t,e⟩:=j8 L;have g:a[i]?=some l:=by rw[QH t,e]
  obtain⟨u,p1,o1,N,V,k2,K,k4,k5,k6,k7⟩:=O8 i l g;rw[h]at V;cases V;have HB:Xm s.h.length a i=l:=fp g;rw[<-HB,Tq i (KL K),K]at ZR;cases ZR;have S:F[i]?=some (F[i]'ω):=QH _;obtain⟨f1,f2,f3⟩:=a1 i _ _ S ⟨l,g,h⟩;have hg:o1.gen=o.gen:=hg;exact T.shape i _ o1 b q S K ω (by rw[Cc M i l g,H]) c el hc;exact⟨c,by rw[(r l b q L H).2];exact hc,rfl⟩
 refine⟨T2,⟨?_,λl l' b q Y S g=>?_,λl o h H=>?_,λl o b q h H=>?_⟩,V'.idx _ OQ Zm⟩;unfold kz;rw[fq ft,fq (zC Cd)];simp[R.len,pQ];rcases W l _ S with ⟨i,t,rfl,C⟩|⟨O,I,C⟩<;>rcases W l' _ g with ⟨j,hj,rfl,e4⟩|⟨h3,h4,e4⟩;rw[O'.inj i j b q Y C e4];exact absurd C ((r l' b Y h4 e4).1 i q);exact absurd e4 ((r l b q I C).1 j Y);exact R.inj l l' b q Y C e4;rcases W l _ H with ⟨i,t,rfl,C⟩|⟨O,I,C⟩;have U:i<n.length:=ω;rw[Tq i U,QH U]at h;cases h;exact O'.V7 i n[i] (QH U) C;unfold kz at h;rw[O7 ω I]at h;exact R.V7 l o h C;rcases W l _ H with ⟨i,t,rfl,C⟩|⟨O,I,C⟩;have U:i<n.length:=ω;rw[Tq i U,QH U]at h;cases h;obtain⟨g1,x⟩:=O'.at_ i _ b q (QH U) C;refine⟨g1,x.to rfl rfl rfl rfl (λk _=>xS _ _) λk j v hk hj hr=>?_⟩;show QF _ _ _ _ (nth (A7 _ (n[i].row k)) j) v;rw[HA _ _ _ hj];exact hr.idx _ OQ Zm;unfold kz at h;rw[O7 ω I]at h;obtain⟨g1,x⟩:=R.at_ l o b q h C;exact⟨g1,x.to rfl rfl rfl (r l b q I C).2 (λ_ _=>rfl) λi j v _ _ hr=>hr.tr T2⟩
def Qey(Q6:base<=w0.w.heap.size){o:Oper}{s x c}{Zu:Array TypeId}{f B J}(hf:Qm P f)(ho:o.op=.call ⟨.value x,c,Zu⟩)
  (hx:JP (Qr s.fr x)=some (f,B,J)) (g:List Nat) (p:Xb s.h.length g=true) (I:A5 g=true) (Y:Mg g (qC s.h g)) (fv:yM g (Jh B J (c.toList.map (Qr s.fr)))=true)
  {R:D->List Ob->Prop} (hF:QO P f ((qC s.h g).map (Ob.Yn g)) (zY g (Jh B J (c.toList.map (Qr s.fr)))) R)
  (N:Zr nt o.dst=true) {Z:Nat->Prop} (z:SS w0 Z) (j:List Pl) (a:Act) (w:World) (r:Rel Z base nt s j a w) (b:Vn Z base w0 s.h j w) (Q':Exit->Act->World->Prop) :
  o.wp P a w (λT y=>(g=[]->Ext w y)/\∃d h C,R d h/\Rel Z base nt ⟨Zi s.fr o.dst (d.idx (Xm s.h.length g)),kz s.h g h⟩ C T y/\Vn Z base w0 (kz s.h g h) C y/\Tr s.h j w (kz s.h g h) C y/\∃v,T=a.put o.dst v) Q':=by
 obtain⟨V,hv,U,Fp⟩:=SZ (r.eval x) hx;have K:base<=w.heap.size:=J5 Q6 b.1.size;have E:∀b,w.heap.size<=b->Z b:=b.2.2.new;have zf:Xb j.length g=true:=by rw[r.o.len];exact p
 have L:∀b,free Z j b->(Z b/\∀l q,j[l]?=some (some (b,q))->l∈g):=λk m=>⟨m.1,λl q e=>absurd e (m.2 l q)⟩;obtain⟨W,JR⟩:=S3 (r:=λd v=>QF Z s.h j w d v) (nf:=B) U Fp (us:=c.toList.map a.eval) (args:=c.toList.map (Qr s.fr)) σ (λi n=>by
  have JH:i<c.toList.length:=by simpa using n
  simp only[nth,Q8,QU,KR];rw[QH JH];exact r.eval _)
 have hc:=hF (λb=>Z b/\∀l q,j[l]?=some (some (b,q))->l∈g) base w (vJ j g) (Jh B V (c.toList.map a.eval)) K
  (λk m=>⟨E k m,λl q e=>by have:=(r.o.lt e).1;omega⟩) (r.o.Qp L p I Y) (by rw[vI];exact W) (λi n=>by rw[vI]at n;rw[FC _ _ _ n];exact(JR i n).Qp L r.o.len p (O5 fv i n))
 unfold Oper.wp;rw[S4 hf ho hv w];simp only[Oper.upon_enter];refine hc.mono λe y he=>?_;obtain⟨v,d,h',C,rfl,hR,hO,hV,O,S⟩:=he;obtain⟨H,M,j3⟩:=QqB r.o K E p I (F:=(qC s.h g).map (Ob.Yn g)) (by rw[KJ,fo p]) (λi o u e ⟨l,e1,e2⟩=>by rw[KR,Mf p i l e1,e2]at e;cases e;exact⟨rfl,rfl,rfl⟩) hO hV O S
 refine⟨λe=>by subst e;exact λk m=>(O.Kz k (λl q e=>by simp[vJ]at e) m).2,d,h',Yo j g C,hR,?_,b.step H S,H,v,rfl⟩;cases I:o.dst with
 | none=>exact r.AI H M v
 | some t=>rw[I]at N;exact r.to H M (vE N) j3
def Xn(Q6:base<=w0.w.heap.size)(g){k H}{ty:TypeId}{pos I gd r s x n}{Zu:Array TypeId}{f T V}(hf:Qm P f)
  (hx:JP (Qr s.fr x)=some (f,T,V)) {F:List Ob} {cs:List D} (ZS:Xb s.h.length g=true/\A5 g=true/\Mg g (qC s.h g)/\yM g (Jh T V (n.toList.map (Qr s.fr)))=true/\KN (zY g (Jh T V (n.toList.map (Qr s.fr)))) cs/\B3 ((qC s.h g).map (Ob.Yn g)) F)
  {R:D->List Ob->Prop} (hF:QO P f F cs R) (ht:Zr nt H=true) (hk:∀d h,R d h->QA P base nt w0 Q (.ops r::k) .normal ⟨Zi s.fr H (d.idx (Xm s.h.length g)),kz s.h g h⟩) :
  QA P base nt w0 Q (.ops ((⟨H,.call ⟨.value x,n,Zu⟩,ty,pos,I,gd⟩,none)::r)::k) .normal s:=by
 simp only[QA]at hk ⊢;obtain⟨hb,hd,pR,fv,he,y⟩:=ZS;intro Z z S a w r b;simp only[qA,XM,Vu];have a1:=hF.args he;have a0:QO P f ((qC s.h g).map (Ob.Yn g)) (zY g (Jh T V (n.toList.map (Qr s.fr)))) R:=by
  intro Z base w S vs h1 h2 M hl hc;have hw:=Wk.Hw (m:=F.length) (fr:=[]) y;obtain⟨W,r',K⟩:=hw Z base 0 S { tmps:=#[],defers:=[] } w ⟨rfl,rfl,λt=>.cl _ _ (.undef _),M⟩;obtain⟨e1,e2⟩:=eF y;refine(a1 Z base w S vs h1 h2 ?_ hl (λi L=>(hc i L).Hw y)).mono λe w' ⟨v,d,h,W,k1,k2,k3,k4,k5,k6⟩=>⟨v,d,h,W,k1,k2,k3,k4,?_,k6⟩;refine⟨by rw[e1];exact M.len,M.inj,λl B E C=>?_,λl B b q E C=>?_⟩;obtain⟨o,u,J⟩:=e2 l B E;rw[J.2.2.1];exact M.V7 l o u C;obtain⟨o,u,J,U,g6,g8,g7⟩:=e2 l B E;obtain⟨N,x⟩:=M.at_ l o b q u C;exact⟨λhr=>N (by rw[<-g8.2,hr]),x.to g8.1 U g6 rfl (λi L=>by rw[g7 i L]) λi j v L _ hr=>by rw[g7 i L];exact hr.Hw y⟩;have O:∀(l:Nat) (o:Ob),((qC s.h g).map (Ob.Yn g))[l]?=some o->∃B,F[l]?=some B/\OM o B:=λl o e=>by
   have:l<F.length:=by rw[e1];exact KL e
   obtain⟨o2,u,J⟩:=e2 l _ (QH this);rw[e]at u;cases u;exact⟨_,QH this,J⟩
  refine⟨k5.Kz,λl o p E C=>?_,λl o cJ b q E Ow hg C c el hc=>?_⟩;obtain⟨Y,N,g2,u,J,U,g6⟩:=O l o E;obtain⟨B,p',t1,t2,t3,t4,t5⟩:=k5.obj l Y p N C;exact⟨B,p',t1,t2,ω,by rw[t4,U.1],λx=>by obtain⟨y1,y2⟩:=t5 ω;exact⟨by rw[y1,u],y2⟩⟩;obtain⟨Y,N,g2,u,J,U,g6⟩:=O l o E;exact k5.shape l Y cJ b q N Ow ω C c el hc
 exact Oper.wp_mono (λa' w' ⟨_,d,h,W,hR,r',b',_⟩=>hk d h hR Z z W a' w' r' b') (Qey Q6 hf rfl hx g hb hd pR fv a0 ht z S a w r b _)
def QqE(M:base<=w0.w.heap.size){K g}{n:TypeId}{pos i H r s x c}{J:Array TypeId}{f j k}(B:Qm P f)
  (t:JP (Qr s.fr x)=some (f,j,k)) {l:List D} (m:yM [] (Jh j k (c.toList.map (Qr s.fr)))=true/\KN (zY [] (Jh j k (c.toList.map (Qr s.fr)))) l) {R:D->List Ob->Prop} (F:QM P f l R)
  (u:Zr nt g=true) (y:∀d h,R d h->AX P base nt w0 K r ⟨Zi s.fr g (d.idx (Xm s.h.length [])),kz s.h [] h⟩) :
  AX P base nt w0 K ((false,⟨g,.call ⟨.value x,c,J⟩,n,pos,i,H⟩,none)::r) s:=by
 simp only[AX,XA,zd];intro Z z q a w o b;exact Oper.wp_mono (λO N ⟨C,d,h,L,E,p,I,T,v,e⟩=>⟨λ_=>C rfl,_,_,L,v,y d h E,p,I,T,e⟩) (Qey M B rfl t [] rfl rfl trivial m.1 (F.args m.2) u z q a w o b _)
end
attribute [go_sem] D.idx A7 Ob.idx Xm Yo kz A5 Tp
end Go.Fg
namespace Go.Fg
def fw(a:List (Nat × D)):List Nat->List (Nat × D)
 | []=>[]
 | t::r=>(t,get a t)::fw a r
attribute [go_sem] fw
def Vj{G:Type}(R:Nat->Prop)(V:Nat->G->List (Nat × D))(H:Nat->G->List Ob)(a:List (Nat × D))(i:Nat)(s:St):Prop:=R i/\∃b,s=⟨V i b++a,H i b⟩
def Vj.mk{G:Type}{R V H a i}(b:G)(h:R i):Vj R V H a i ⟨V i b++a,H i b⟩:=⟨h,b,rfl⟩
section
variable {P:Program}{base nt:Nat}{w0:Start}{Q:Exit->St->Prop}{k:List Item}
def xT{G:Type}(f R)(V:Nat->G->List (Nat × D))(H:Nat->G->List Ob)(N)(b:G){c j h a}(p:fw j f=a)
  (l:Qs w0 ⟨j,h⟩ ⟨V 0 b++a,H 0 b⟩) (n:R 0)
  (d:∀i g,i<=N->R i->QA P base nt w0 (Tn P base nt w0 Q k (Vj R V H a) N i) [.code c] .normal ⟨V i g++a,H i g⟩):QA P base nt w0 Q (.code (.loop c)::k) .normal ⟨j,h⟩:=
 ZY (Vj R V H a) N l ⟨n,b,rfl⟩ λi s m ⟨o,g,e⟩=>by subst e;exact d i g m o
end
section
variable {P:Program}{base:Nat}{w0:Start}{Q:Exit->St->Prop}{X:Cx}{nt n:Nat}{k k':List Item}{s s':St}
def WN{i N:Nat}(c:i<=N)(b:i<N->hx P base w0 Q X nt n k s)(a:i=N->hx P base w0 Q X nt n k' s'):Xa (decide (i<N)) (hz P base w0 Q X nt n k s) (hz P base w0 Q X nt n k' s'):=
 ⟨λh=>b (zC h),λh=>a (by simp at h;omega)⟩
def WO{i N:Nat}(c:i<=N)(b:i<N->hx P base w0 Q X nt n k s)(a:i=N->hx P base w0 Q X nt n k' s'):Xa (decide ((i:Int)<(N:Int))) (hz P base w0 Q X nt n k s) (hz P base w0 Q X nt n k' s'):=
 ⟨λh=>b (zC h),λh=>a (by simp at h;omega)⟩
def zg{p}[Decidable p](b:p->hx P base w0 Q X nt n k s)(a:¬ p->hx P base w0 Q X nt n k' s'):Xa (decide p) (hz P base w0 Q X nt n k s) (hz P base w0 Q X nt n k' s'):=
 ⟨λh=>b (qw h),λh=>a (Dq h)⟩
def zj{c:Type}[BEq c][LawfulBEq c]{a b:c}(e:a=b->hx P base w0 Q X nt n k s)(d:a≠b->hx P base w0 Q X nt n k' s'):Xa (a==b) (hz P base w0 Q X nt n k s) (hz P base w0 Q X nt n k' s'):=
 ⟨λh=>e (zC h),λh=>d (zC h)⟩
def zk{c:Type}[BEq c][LawfulBEq c]{a b:c}(e:a≠b->hx P base w0 Q X nt n k s)(d:a=b->hx P base w0 Q X nt n k' s'):Xa (a != b) (hz P base w0 Q X nt n k s) (hz P base w0 Q X nt n k' s'):=
 ⟨λh=>e (zC h),λh=>d (zC h)⟩
def zl{K b l a p}[Decidable p](d:p->Vi P base w0 X nt K l s)(c:¬ p->Vi P base w0 X nt b a s'):Xa (decide p) (zX P base w0 X nt K l s) (zX P base w0 X nt b a s'):=
 ⟨λh=>d (qw h),λh=>c (Dq h)⟩
def zn{K e:St->Prop}{l d:List (Bool × Oper × G)}{c:Type}[BEq c][LawfulBEq c]{a b:c}(g:a=b->Vi P base w0 X nt K l s)(f:a≠b->Vi P base w0 X nt e d s'):Xa (a==b) (zX P base w0 X nt K l s) (zX P base w0 X nt e d s'):=
 ⟨λh=>g (zC h),λh=>f (zC h)⟩
def zo{K e:St->Prop}{l d:List (Bool × Oper × G)}{c:Type}[BEq c][LawfulBEq c]{a b:c}(g:a≠b->Vi P base w0 X nt K l s)(f:a=b->Vi P base w0 X nt e d s'):Xa (a != b) (zX P base w0 X nt K l s) (zX P base w0 X nt e d s'):=
 ⟨λh=>g (zC h),λh=>f (zC h)⟩
end
end Go.Fg
namespace Go.Fg
open Go.RowKit (Below)
def rowFrom(b:Nat)(a:Nat->List D):Nat->List D:=λi=>a (b+i)
theorem QqF(a):rowFrom 0 a=a:=by funext i;simp[rowFrom]
theorem HC(b a i):rowFrom b a i=a (b+i):=rfl
mutual
def D.fz(l k n h:Nat)(a:Nat->List D):D->D
 | .ref b g c e=>bif Nat.beq b l then (bif Nat.beq g k&&Nat.ble (c+e) n then .imm h e (rowFrom c a) else .undef) else .ref b g c e
 | .ptr b g i j=>bif Nat.beq b l then (bif Nat.beq g k&&Nat.blt i n&&Nat.ble j h then .ip ((a i).drop j) else .undef) else .ptr b g i j
 | .mref b g=>bif Nat.beq b l then .undef else .mref b g
 | .clo f o m=>.clo f o (zZ l k n h a m)
 | .agg m=>.agg (zZ l k n h a m)
 | .tup m=>.tup (zZ l k n h a m)
 | d=>d
def zZ(l d n b:Nat)(a:Nat->List D):List D->List D
 | []=>[]
 | c::e=>c.fz l d n b a::zZ l d n b a e
end
def xU(l d n c a):∀b:List D,(zZ l d n c a b).length=b.length
 | []=>rfl
 | _::b=>by simp[zZ,xU l d n c a b]
def HE(l e n d a):∀(b:List D) (i:Nat),i<b.length->nth (zZ l e n d a b) i=(nth b i).fz l e n d a
 | [],i,h=>by simp at h
 | c::b,0,_=>by simp[zZ,nth]
 | c::b,i+1,h=>by have:=HE l e n d a b i (zC h);simpa[zZ,nth] using this
theorem QqG(l f n e d c a b):zZ l f n e d (bif c then a else b)=bif c then zZ l f n e d a else zZ l f n e d b:=by cases c<;>rfl
def Pb(l c n b:Nat)(a:Nat->List D):List (Nat × D)->List (Nat × D)
 | []=>[]
 | (t,d)::r=>(t,d.fz l c n b a)::Pb l c n b a r
def QeA(l c n b a):∀(e:List (Nat × D)) (t:Nat),get (Pb l c n b a e) t=(get e t).fz l c n b a
 | [],t=>rfl
 | (u,d)::r,t=>by simp only[Pb,get];cases Nat.beq u t;exact QeA l c n b a r t;rfl
def Ob.fz(l c n b:Nat)(a:Nat->List D)(o:Ob):Ob:=⟨o.kd,o.gen,o.sz,o.n,λi=>zZ l c n b a (o.row i)⟩
def Pc(l c n b:Nat)(a:Nat->List D):List Ob->List Ob
 | []=>[]
 | o::r=>o.fz l c n b a::Pc l c n b a r
def Pd(l c n b a):∀h:List Ob,Pc l c n b a h=h.map (Ob.fz l c n b a)
 | []=>rfl
 | o::r=>by simp[Pc,Pd l c n b a r]
def Ob.gone(o:Ob):Ob:=⟨.arr,o.gen+1,o.sz,0,λ_=>[]⟩
section
variable {Z:Nat->Prop}
def QqH{N w}(l E n y t){d:D}{v}(c:Cl N w d v):Cl N w (d.fz l E n y t) v:=by
 induction c with
 | raw v=>exact .raw v
 | undef v=>exact .undef v
 | nil a=>exact .nil a
 | imm s m r a u b o g C j B q p h=>exact .imm s m r a u b o g C j B q p
 | ip k b o g q p h=>exact .ip k b o g q p
 | clo f z x g j p h=>exact .clo f z _ g (by rw[xU];exact j) (λi e=>by rw[xU]at e;rw[HE _ _ _ _ _ _ _ e];exact h i e)
 | agg x g j p h=>exact .agg _ g (by rw[xU];exact j) (λi e=>by rw[xU]at e;rw[HE _ _ _ _ _ _ _ e];exact h i e)
 | tup x g j p h=>exact .tup _ g (by rw[xU];exact j) (λi e=>by rw[xU]at e;rw[HE _ _ _ _ _ _ _ e];exact h i e)
def QF.fz{h:List Ob}{t:List Pl}{w:World}{l:Nat}{o:Ob}{p:Pl}(ho:h[l]?=some o)(hp:t[l]?=some p)(hk:o.kd.ty=0)(E:∀b q,p=some (b,q)->Z b/\(∀m q',t[m]?=some (some (b,q'))->m=l)/\Ou Z h t w o b q)
  (Zw:∀i,i<o.n->(o.row i).all D.Yl=true) {h':List Ob} (hh:∀(m:Nat) (B:Ob),m≠l->h[m]?=some B->∃u,h'[m]?=some u/\u.gen=B.gen/\u.sz=B.sz/\u.kd.ty=B.kd.ty) {d:D} {v:Value} (r:QF Z h t w d v) :
  QF Z h' (t.set l none) w (d.fz l o.gen o.n o.sz o.row) v:=by
 have T:∀(m:Nat),m≠l->(t.set l none)[m]? = t[m]? := λm YR=>by rw[JT (Zb YR)]
 have OX:∀b,XL t b->XL (t.set l none) b:=λb E m q e=>by by_cases K:m=l;subst K;rw[Xi (WA hp)]at e;cases e;rw[T m K]at e;exact E m q e
 have Yk:∀b,free Z t b->free Z (t.set l none) b:=λb E=>⟨E.1,OX b E.2⟩;have FD:∀b q,p=some (b,q)->free Z (t.set l none) b:=λb q e=>⟨(E b q e).1,λm q' e'=>by by_cases K:m=l;subst K;rw[Xi (WA hp)]at e';cases e';rw[T m K]at e';exact K ((E b q e).2.1 m q' e')⟩
 have Dw:∀b q,p=some (b,q)->∃c el,w.heap[b]?=some (.cells c el (0,0))/\(∀i,i<o.n->(o.row i).length=o.sz)/\∃y:Nat->Nat->Value,∀i j,i<o.n->j<o.sz->w.cell? ⟨b,q+(i*o.sz+j),none⟩=some (y i j)/\Cl (free Z (t.set l none)) w (nth (o.row i) j) (y i j):=λb q e=>by
  obtain⟨c,el,h1,_,h3,h4⟩:=(E b q e).2.2;refine⟨c,el,h1,h3,λi j=>(c[q+(i*o.sz+j)]?).getD Go.undef,λi j n J=>?_⟩;obtain⟨u,hu,hr⟩:=h4 i j n J;refine⟨by rw[cell_of_row w b _ c el (0,0) h1,hu];simp[hu],?_⟩;simp only[hu,Va];have h5:=Zw i n;rw[jt]at h5;have h6:j<(o.row i).length:=by rw[h3 i n];exact J
  have h7:(nth (o.row i) j).Yl=true:=h5 _ (by simp only[nth,QU,QH h6,Va];exact XK h6);exact(Ht hr h7).mono λx hx _=>⟨Yk x hx,rfl⟩
 induction r with
 | cl d v C=>exact .cl _ _ (QqH l o.gen o.n o.sz o.row (C.mono λb E _=>⟨Yk b E,rfl⟩))
 | ref m g s W B O a a0 z F L S I=>
  by_cases e:m=l;subst e;rw[ho]at z;cases z;rw[hp]at F;cases F;simp only[D.fz,Om,wD];cases C:(Nat.beq g o.gen&&Nat.ble (s+W) o.n);exact .cl _ _ (.undef _);simp only[wD,ZM,Wz,Lj]at C ⊢;rcases I C.1 with ⟨h1,h2⟩|⟨b,q,c,el,U,ha,HB,JV,Dv⟩;subst h1;subst h2;exact .cl _ _ (.imm _ _ _ _ _ 0 0 (λ_ _=>Go.undef) (λh=>ω) ω (λi n=>ω) (λi j n=>ω) (λi j n=>ω));obtain⟨c',dh,k1,k2,y,P⟩:=Dw b q U;refine .cl _ _ (.imm _ _ _ _ _ b (q+s*o.sz) (λi j=>y (s+i) j) (λ_=>ha) Dv (λi n=>k2 _ ω) (λi j n J=>⟨FD b q U,?_⟩) (λi j n J=>(P (s+i) j ω J).2));rw[<-(P (s+i) j ω J).1,KE,show q+s*o.sz+(i*o.sz+j)=q+(s*o.sz+i*o.sz+j) by omega];have V:Nat.beq m l=false:=by rw[<-Yx,Wz];exact e
  simp only[D.fz,V,ju];obtain⟨u,N,H,Y,M⟩:=hh m B e z;exact .ref m g s W u O a a0 N (by rw[T m e];exact F) (by rw[M];exact L) (by rw[H];exact S) (by rw[H,Y];exact I)
 | ptr m g i j B O a z F L S I=>
  by_cases e:m=l;subst e;rw[ho]at z;cases z;rw[hp]at F;cases F;simp only[D.fz,Om,wD];cases C:(Nat.beq g o.gen&&Nat.blt i o.n&&Nat.ble j o.sz);exact .cl _ _ (.undef _);simp only[wD,ZM,Wz,Lj,xH]at C ⊢;obtain⟨b,q,U,ha⟩:=I C.1.1;obtain⟨c',dh,k1,k2,y,P⟩:=Dw b q U;subst ha;have a1:((o.row i).drop j).length=o.sz-j:=by rw[bX,k2 i C.1.2]
  refine .cl _ _ (.ip _ b _ (λk=>y i (j+k)) (λk hk=>⟨FD b q U,?_⟩) (λk hk=>?_));rw[<-(P i (j+k) C.1.2 ω).1];congr 1;simp;rw[G6];exact(P i (j+k) C.1.2 ω).2;have V:Nat.beq m l=false:=by rw[<-Yx,Wz];exact e
  simp only[D.fz,V,ju];obtain⟨u,N,H,Y,M⟩:=hh m B e z;exact .ptr m g i j u O a N (by rw[T m e];exact F) (by rw[M];exact L) (by rw[H];exact S) (by rw[H,Y];exact I)
 | mref m g B O b z F L S I=>
  by_cases e:m=l;subst e;rw[ho]at z;cases z;exact absurd hk L.1;have V:Nat.beq m l=false:=by rw[<-Yx,Wz];exact e
  simp only[D.fz,V,ju];obtain⟨u,N,H,Y,M⟩:=hh m B e z;exact .mref m g u O b N (by rw[T m e];exact F) (by rw[M];exact L) (by rw[H];exact S) (by rw[H];exact I)
 | clo f nf cs y R hr Q=>exact .clo f nf _ y (by rw[xU];exact R) (λi n=>by rw[xU]at n;rw[HE _ _ _ _ _ _ _ n];exact Q i n)
 | agg cs y R hr Q=>exact .agg _ y (by rw[xU];exact R) (λi n=>by rw[xU]at n;rw[HE _ _ _ _ _ _ _ n];exact Q i n)
 | tup cs y R hr Q=>exact .tup _ y (by rw[xU];exact R) (λi n=>by rw[xU]at n;rw[HE _ _ _ _ _ _ _ n];exact Q i n)
end
def Qs.freeze{C:Start}(L:C.pl=[])(l){M}{h:List Ob}{o:Ob}(H:h[l]?=some o)(K:o.kd.ty=0)(Q:∀i,i<o.n->(o.row i).all D.Yl=true):
  Qs C ⟨M,h⟩ ⟨Pb l o.gen o.n o.sz o.row M,(Pc l o.gen o.n o.sz o.row h).set l o.gone⟩:=by
 intro Z z U nt g a w r b;have E:g.length=h.length:=r.o.len;have S:l<g.length:=by have m:=KL H;omega
 have n:g[l]?=some g[l]:=QH S;generalize oS:g[l]=p at n;have O:∀c,XL C.pl c:=λc i q e=>by rw[L]at e;simp at e
 have W:∀d c q:Nat,g[d]?=some (some (c,q))->C.w.heap.size<=c:=λd c q e=>by rcases xI c C.w.heap.size with Qb|Xz;exact absurd e ((b.2.1.Kz c (O c) Qb).1 d q);exact Xz
 have T:∀c q,p=some (c,q)->Z c/\(∀d F,g[d]?=some (some (c,F))->d=l)/\Ou Z h g w o c q:=λc q e=>by subst e;exact⟨b.2.2.own l c q n (W l c q n),λd F e'=>r.o.inj _ _ _ _ _ e' n,(r.o.at_ l o c q H n).2.cells K⟩
 have P:∀(d:Nat) (y:Ob),d≠l->h[d]?=some y->∃u,((Pc l o.gen o.n o.sz o.row h).set l o.gone)[d]?=some u/\u.gen=y.gen/\u.sz=y.sz/\u.kd.ty=y.kd.ty:=λd y N e=>⟨y.fz l o.gen o.n o.sz o.row,by rw[JT (Zb N),Pd,KR,e];rfl,rfl,rfl,rfl⟩
 have R:∀(d:Nat),d≠l->(g.set l none)[d]? = g[d]? := λd YR=>by rw[JT (Zb YR)]
 have V:(g.set l none)[l]?=some none:=Xi S;have B:∀d c q:Nat,(g.set l none)[d]?=some (some (c,q))->d≠l/\g[d]?=some (some (c,q)):=λd c q e=>by by_cases f:d=l;subst f;rw[V]at e;cases e;exact⟨f,by rw[<-R d f];exact e⟩
 refine⟨g.set l none,⟨r.nt,r.defers,λt=>?_,⟨?_,λk Y c q F f s=>?_,λk I m f=>?_,λk I c q m f=>?_⟩⟩,b.1,⟨λc hb Qb=>?_,λk I p1 m f=>?_,λk I o2 c q m h2 hg f=>?_⟩,b.2.2.new,λk c q e h0=>b.2.2.own k c q (B _ _ _ e).2 h0⟩;show QF Z _ _ w (get (Pb l o.gen o.n o.sz o.row M) t) _;rw[QeA];exact(r.fr t).fz H n K T Q P;simp[Pd,E];exact r.o.inj k Y c q F (B _ _ _ f).2 (B _ _ _ s).2;by_cases s:k=l;subst s;rw[Xi (by rw[Pd];simp;omega)]at m;cases m;rfl;rw[JT (Zb s),Pd,KR]at m;rw[R k s]at f;obtain⟨u,J,rfl⟩:=WK.1 m;exact r.o.V7 k u J f;obtain⟨N,s⟩:=B _ _ _ f;rw[JT (Zb N),Pd,KR]at m;obtain⟨u,J,rfl⟩:=WK.1 m;obtain⟨g1,x⟩:=r.o.at_ k u c q J s;refine⟨g1,x.to rfl rfl rfl rfl (λi _=>xU _ _ _ _ _ _) λi j v hi hj hr=>?_⟩;show QF Z _ _ w (nth (zZ _ _ _ _ _ (u.row i)) j) v;rw[HE _ _ _ _ _ _ _ hj];exact hr.fz H n K T Q P;obtain⟨k1,k2⟩:=b.2.1.Kz c hb Qb;exact⟨λd q e=>k1 d q (B _ _ _ e).2,k2⟩;rw[L]at f;simp at f;rw[L]at f;simp at f
attribute [go_sem] QqF HC D.fz zZ QqG Pb Ob.fz Pc Ob.gone
end Go.Fg
namespace Go.Fg
def zq(f:D->D->Prop):List D->List D->Prop
 | [],[]=>True
 | a::r,b::s=>f a b/\zq f r s
 | _,_=>False
def JQ:Nat->D->D->Prop
 | 0,d,c=>c=d
 | k+1,d,c=>match c with
  | .raw v=>d=.raw v
  | .undef=>True
  | .nil=>d=.nil
  | .imm z n r=>match d with
   | .imm e p h=>z=e/\n=p/\∀i,i<n->zq (JQ k) (h i) (r i)
   | .nil=>n=0
   | _=>False
  | .ip b=>match d with
   | .ip a=>zq (JQ k) a b
   | _=>False
  | .ref l g o n=>d=.ref l g o n
  | .ptr l g i j=>d=.ptr l g i j
  | .mref l g=>d=.mref l g
  | .clo f m b=>match d with
   | .clo s q a=>f=s/\m=q/\zq (JQ k) a b
   | _=>False
  | .agg b=>match d with
   | .agg a=>zq (JQ k) a b
   | _=>False
  | .tup b=>match d with
   | .tup a=>zq (JQ k) a b
   | _=>False
def vK{f}(h:∀d,f d d):∀l,zq f l l
 | []=>trivial
 | a::r=>⟨h a,vK h r⟩
def zw:∀(k:Nat) (d:D),JQ k d d
 | 0,_=>rfl
 | k+1,d=>by cases d<;>simp[JQ]<;>first|exact vK (zw k) _|exact λ_ _=>vK (zw k) _
theorem QqJ(k l):zq (JQ k) l l=True:=eq_true (vK (zw k) l)
def yN{f}:∀{l m:List D},zq f l m->m.length=l.length/\∀i,i<l.length->f (nth l i) (nth m i)
 | [],[],_=>⟨rfl,λi c=>by simp at c⟩
 | [],_::_,h=>h.elim
 | _::_,[],h=>h.elim
 | a::r,b::s,h=>by
  obtain⟨e,d⟩:=yN h.2;refine⟨by simp[e],λi c=>?_⟩;cases i with
  | zero=>exact h.1
  | succ i=>have:=d i (zC c);simpa[nth] using this
def Pe:∀(k:Nat) {N:Nat->Prop} {w:World} {d q:D} {v:Value},JQ k d q->Cl N w d v->Cl N w q v
 | 0,_,_,d,q,v,h,c=>by have h:q=d:=h;subst h;exact c
 | k+1,N,w,d,q,v,h,c=>by
  cases q<;>simp only[JQ]at h;case raw=>subst h;exact c
  case undef=>exact .undef _
  case nil=>subst h;exact c
  case imm z n r=>
   split at h;obtain⟨rfl,rfl,h⟩:=h;cases c with
   | imm _ _ _ a y b o e C s B t g=>exact .imm _ _ _ a y b o e C s (λi l=>by rw[(yN (h i l)).1];exact B i l) t (λi j l m=>Pe k ((yN (h i l)).2 j (by rw[B i l];exact m)) (g i j l m))
   subst h;cases c with
   | nil a=>exact .imm _ _ _ _ _ 0 0 (λ_ _=>Go.undef) (λh=>ω) ω (λi l=>ω) (λi j l=>ω) (λi j l=>ω)
   exact h.elim
  case ip x=>
   split at h;obtain⟨u,p⟩:=yN h;cases c with
   | ip _ b o e t g=>exact .ip _ b o e (λj m=>t j ω) (λj m=>Pe k (p j ω) (g j ω))
   exact h.elim
  case ref=>subst h;exact c
  case ptr=>subst h;exact c
  case mref=>subst h;exact c
  case clo f E x=>
   split at h;obtain⟨rfl,rfl,h⟩:=h;obtain⟨u,p⟩:=yN h;cases c with
   | clo _ _ _ e s g=>exact .clo _ _ _ e ω (λj m=>Pe k (p j ω) (g j ω))
   exact h.elim
  case agg x=>
   split at h;obtain⟨u,p⟩:=yN h;cases c with
   | agg _ e s g=>exact .agg _ e ω (λj m=>Pe k (p j ω) (g j ω))
   exact h.elim
  case tup x=>
   split at h;obtain⟨u,p⟩:=yN h;cases c with
   | tup _ e s g=>exact .tup _ e ω (λj m=>Pe k (p j ω) (g j ω))
   exact h.elim
def vL:∀(k:Nat) {Z:Nat->Prop} {h:List Ob} {z:List Pl} {w:World} {d m:D} {v:Value},JQ k d m->QF Z h z w d v->QF Z h z w m v
 | 0,_,_,_,_,d,m,v,e,c=>by have e:m=d:=e;subst e;exact c
 | k+1,Z,h,z,w,d,m,v,e,c=>by
  cases c with
  | cl _ _ K=>exact .cl _ _ (Pe (k+1) e K)
  | ref l g B C o p a E t s u x q=>cases m<;>simp only[JQ,reduceCtorEq]at e;exact .cl _ _ (.undef _);cases e;exact .ref l g B C o p a E t s u x q
  | ptr l g i j o p a t s u x q=>cases m<;>simp only[JQ,reduceCtorEq]at e;exact .cl _ _ (.undef _);cases e;exact .ptr l g i j o p a t s u x q
  | mref l g o p b t s u x q=>cases m<;>simp only[JQ,reduceCtorEq]at e;exact .cl _ _ (.undef _);cases e;exact .mref l g o p b t s u x q
  | clo f L J n F r=>cases m<;>simp only[JQ,reduceCtorEq]at e;exact .cl _ _ (.undef _);obtain⟨rfl,rfl,e⟩:=e;obtain⟨I,y⟩:=yN e;exact .clo _ _ _ n ω (λj H=>vL k (y j ω) (r j ω))
  | agg J n F r=>cases m<;>simp only[JQ,reduceCtorEq]at e;exact .cl _ _ (.undef _);obtain⟨I,y⟩:=yN e;exact .agg _ n ω (λj H=>vL k (y j ω) (r j ω))
  | tup J n F r=>cases m<;>simp only[JQ,reduceCtorEq]at e;exact .cl _ _ (.undef _);obtain⟨I,y⟩:=yN e;exact .tup _ n ω (λj H=>vL k (y j ω) (r j ω))
def Told(R:D->List Ob->Prop)(d:D)(h:List Ob):Prop:=∃a,JQ 6 d a/\R a h
def QO.tell{P f F a R}(h:QO P f F a (Told R)):QO P f F a R:=λZ b w e c q p o l n=>(h Z b w e c q p o l n).mono λ_ _ ⟨v,d,m,u,k,⟨t,s,r⟩,j,i,g⟩=>⟨v,t,m,u,k,r,j,vL 6 s i,g⟩
def QM.tell{P f a R}(h:QM P f a (Told R)):QM P f a R:=QO.tell h
def QO.QeB{P f F cs' b R}(h:QO P f F b R)(e:zq (JQ 6) cs' b):QO P f F cs' R:=λZ a w d c l k j n g=>by obtain⟨p,m⟩:=yN e;exact h Z a w d c l k j ω λi o=>vL 6 (m i ω) (g i ω)
def Mi(a:List (Nat × D)):List (Nat × D)->Prop
 | []=>True
 | (t,d)::r=>JQ 6 (get a t) d/\Mi a r
def QeC{a}:∀{r:List (Nat × D)},Mi a r->∀t d,(t,d)∈r->JQ 6 (get a t) d
 | [],_,_,_,h=>by cases h
 | (u,e)::r,h,t,d,b=>by rcases QK.1 b with h1|h1;cases h1;exact h.1;exact QeC h.2 t d h1
def fy(o a:Ob):Prop:=a.gen=o.gen/\a.sz=o.sz/\a.n=o.n/\a.kd.LU o.kd/\∀i,i<o.n->zq (JQ 6) (o.row i) (a.row i)
def Mj:List Ob->List Ob->Prop
 | [],[]=>True
 | o::r,b::a=>fy o b/\Mj r a
 | _,_=>False
def QeD:∀{h b:List Ob},Mj h b->b.length=h.length/\∀(l:Nat) (a:Ob),b[l]?=some a->∃o,h[l]?=some o/\fy o a
 | [],[],_=>⟨rfl,λl a e=>by simp at e⟩
 | [],_::_,h=>h.elim
 | _::_,[],h=>h.elim
 | o::r,a::i,h=>by
  obtain⟨g,f⟩:=QeD h.2;refine⟨by simp[g],λl u e=>?_⟩;cases l with
  | zero=>simp at e;subst e;exact⟨o,rfl,h.1⟩
  | succ l=>simp at e;obtain⟨v,d,c⟩:=f l u e;exact⟨v,by simpa using d,c⟩
def Wk.tell{m V z h E}(hf:Mi V z)(B:Mj h E):Wk m ⟨V,h⟩ ⟨z,E⟩:=λZ W nt N a w r=>by
 obtain⟨h1,P⟩:=QeD B;have y:∀(l:Nat) (o:Ob),h[l]?=some o->∃k,E[l]?=some k/\fy o k:=λl o e=>by
  have:l<E.length:=by rw[h1];exact KL e
  obtain⟨o2,n,c⟩:=P l _ (QH this);rw[e]at n;cases n;exact⟨_,QH this,c⟩
 have M:∀{d:D} {v:Value},QF Z h N w d v->QF Z E N w d v:=λr=>by
  induction r with
  | cl d v hc=>exact .cl d v hc
  | ref l g Q R o p a S u s J K I=>obtain⟨k,n,c⟩:=y l o u;exact .ref l g Q R k p a S n s (by rw[c.2.2.2.1.1];exact J) (by rw[c.1];exact K) (λe=>by rw[c.2.1];exact I (by rw[e,c.1]))
  | ptr l g i j o p a u s J K I=>obtain⟨k,n,c⟩:=y l o u;exact .ptr l g i j k p a n s (by rw[c.2.2.2.1.1];exact J) (by rw[c.1];exact K) (λe=>by rw[c.2.1];exact I (by rw[e,c.1]))
  | mref l g o p b u s J K I=>obtain⟨k,n,c⟩:=y l o u;exact .mref l g k p b n s (by rw[c.2.2.2.1.1];exact J) (by rw[c.1];exact K) (λe=>I (by rw[e,c.1]))
  | clo f Y L F B C H=>exact .clo f Y L F B H
  | agg L F B C H=>exact .agg L F B H
  | tup L F B C H=>exact .tup L F B H
 refine⟨N,⟨r.nt,r.defers,λt=>?_,⟨by rw[h1];exact r.o.len,r.o.inj,λl k u s=>?_,λl k b q u s=>?_⟩⟩,λ_ h=>h,λl o p _ u s=>?_⟩;rcases QdK z t with h1|h1;show QF Z E N w (get z t) _;rw[h1];exact .cl _ _ (.undef _);exact vL 6 (QeC hf _ _ h1) (M (r.fr t));obtain⟨o,n,c⟩:=P l k u;rw[c.2.2.1];exact r.o.V7 l o n s;obtain⟨o,n,c,h5,h6,T,U⟩:=P l k u;obtain⟨g1,x⟩:=r.o.at_ l o b q n s;exact⟨λC=>g1 (by rw[<-T.2,C]),x.to T.1 h5 h6 rfl (λi O=>(yN (U i O)).1) λi j v O hj C=>vL 6 ((yN (U i O)).2 j hj) (M C)⟩;obtain⟨k,n,c⟩:=y l o u;exact⟨k,n,s,c.1,c.2.1,c.2.2.2.1.1⟩
def Qs.tell{e d a h c}(b:Mi d a/\Mj h c):Qs e ⟨d,h⟩ ⟨a,c⟩:=(Wk.tell b.1 b.2).up
def Qs.toT{d:Start}(k){f a}{h b:List Ob}(c:Mi f a/\Mj h (b++h.drop k)/\Hx k a=true/\B4 k b/\b.length=k)(g:d.F.length<=k:=by exact Sx rfl):Qs d ⟨f,h⟩ ⟨a,b⟩:=by
 refine Qs.trans (Qs.tell ⟨c.1,c.2.1⟩) ?_;have e:(b++h.drop k).take k=b:=by rw[List.take_append_of_le_length ω,List.take_of_length_le ω]
 have:=Wk.drop (m:=d.F.length) k g (fr:=a) (h:=b++h.drop k) c.2.2.1 (by rw[e];exact c.2.2.2.1);rw[e]at this;exact this.up
section
variable {k:Nat}{d:D}
theorem QqK:JQ k d d=True:=eq_true (zw k d)
theorem QeE{v}:JQ (k+1) d (.raw v)=(d=.raw v):=rfl
theorem QqL:JQ (k+1) d .undef=True:=rfl
theorem QqM:JQ (k+1) d .nil=(d=.nil):=rfl
theorem Tt{z n a c r b}:JQ (k+1) (.imm a c b) (.imm z n r)=(z=a/\n=c/\∀i,i<n->zq (JQ k) (b i) (r i)):=rfl
theorem QqN{z n r}:JQ (k+1) .nil (.imm z n r)=(n=0):=rfl
theorem QqO{l g o n}:JQ (k+1) d (.ref l g o n)=(d=.ref l g o n):=rfl
theorem QqP{l g i j}:JQ (k+1) d (.ptr l g i j)=(d=.ptr l g i j):=rfl
theorem QqQ{l g}:JQ (k+1) d (.mref l g)=(d=.mref l g):=rfl
theorem QqR{b a}:JQ (k+1) (.ip a) (.ip b)=zq (JQ k) a b:=rfl
theorem QqS{f e b c g a}:JQ (k+1) (.clo e c a) (.clo f b g)=(f=e/\b=c/\zq (JQ k) a g):=rfl
theorem QeF{b a}:JQ (k+1) (.agg a) (.agg b)=zq (JQ k) a b:=rfl
theorem QqT{b a}:JQ (k+1) (.tup a) (.tup b)=zq (JQ k) a b:=rfl
theorem QeG{f}:zq f [] []=True:=rfl
theorem pT{f a b r s}:zq f (a::r) (b::s)=(f a b/\zq f r s):=rfl
end
attribute [go_sem] QqK QeE QqL QqM Tt QqN QqO QqP QqQ QqR QqS QeF QqT QeG pT QqJ Mi fy Mj
end Go.Fg
