/- Contracts and laws on the way to the statement. No conditions. -/
import Derived.Test.YtkfemlhbbcojnaaGreatFgMapHD
import Derived.Scope
import Derived.OrdersHeld
set_option maxRecDepth 100000
set_option maxHeartbeats 16000000
set_option linter.unusedVariables false
set_option linter.unusedSimpArgs false
set_option linter.unusedSectionVars false
set_option linter.defProp false
namespace Go.Fg
open Go.RowKit (Below)
variable {Z:Nat->Prop}
structure Cx where
 L:Z8
 E:B0
def xq(X:Cx)(s:St):Op->Ev
 | .move x=>some (True,Qo s.fr x)
 | .assign x=>some (True,Qo s.fr x)
 | .pick c x y=>match Qo s.fr c with
  | .raw (.bool b)=>some (True,bif b then Qo s.fr x else Qo s.fr y)
  | _=>none
 | .binOp op t x y _=>match UI X.L op t (Qo s.fr x) (Qo s.fr y) with
  | some r=>some r
  | none=>U6 X.E op t (Qo s.fr x) (Qo s.fr y)
 | .unOp u _ x=>match u,Qo s.fr x with
  | .not,.raw (.bool b)=>some (True,.raw (.bool (!b)))
  | .neg,.raw (.int k n)=>some (True,.raw (.int k (k.wrap (0 - n))))
  | .xor,.raw (.int k n)=>some (True,.raw (.int k (bits .xor k (if k.signed then -1 else k.max) n)))
  | _,_=>none
 | .convert a b x=>UN X.L a b (Qo s.fr x)
 | .build t parts=>match UZ X.L s.fr t parts.toList with
  | some d=>some (True,d)
  | none=>none
 | .load t x=>Hq X.L s.h t (Qo s.fr x)
 | .nilCheck x=>bif (Qo s.fr x).there then some (True,Qo s.fr x) else none
 | .fieldAddr t x f=>UJ X.L t f (Qo s.fr x)
 | .field t x f=>UK X.L t f (Qo s.fr x)
 | .indexAddr t x i=>UL X.L s.h t (Qo s.fr x) (Qo s.fr i)
 | .index t x i=>UM X.L t (Qo s.fr x) (Qo s.fr i)
 | .extract x i=>match Qo s.fr x with
  | .tup cs=>some (i<cs.length,nth cs i)
  | _=>none
 | .slice t x lo hi mx=>match mx with
  | none=>U2 X.L s.fr s.h t (Qo s.fr x) lo hi
  | some _=>none
 | .makeFunc fn first Qs=>match fn,first with
  | .func f,⟨fs⟩=>some (True,.clo f fs.length ((fs++Qs.toList).map (Qo s.fr)))
  | _,_=>none
 | .call ⟨.builtin b,⟨args⟩,⟨Zl⟩⟩=>match b,args,Zl with
  | .len,[x],[t]=>match UO X.L t (Qo s.fr x) with
   | some r=>some r
   | none=>an X.L s.h t (Qo s.fr x)
  | .max,[x,y],_=>match Qo s.fr x,Qo s.fr y with
   | .raw (.int k m),.raw (.int _ n)=>some (True,.raw (.int k (max m n)))
   | _,_=>none
  | .min,[x,y],_=>match Qo s.fr x,Qo s.fr y with
   | .raw (.int k m),.raw (.int _ n)=>some (True,.raw (.int k (min m n)))
   | _,_=>none
  | _,_,_=>none
 | .lookup t x i ok=>match ak X.L s.h t (Qo s.fr x) (Qo s.fr i) ok with
  | some r=>some r
  | none=>bif ok then ay X.L X.E s.h t (Qo s.fr x) (Qo s.fr i) else none
 | _=>none
structure qH (P:Program) (X:Cx):Prop where
 L:Z5 P X.L
 E:yw P X.E
def QaS{P}{X}(hX:qH P X){base nt}{s}{o:Oper}{p}{d}(h:xq X s o.op=some (p,d))(hp:p):Wd P base nt o s d:=by
 unfold xq at h;split at h;case h_1 x ho=>simp only[QY,Q9]at h;obtain⟨rfl,rfl⟩:=h;exact uZ (.inl ho)
 case h_2 x ho=>simp only[QY,Q9]at h;obtain⟨rfl,rfl⟩:=h;exact uZ (.inr ho)
 case h_3 c x y ho=>
  split at h
  .rename_i b hc;simp only[QY,Q9]at h;obtain⟨rfl,rfl⟩:=h;exact QkL ho hc
  .cases h
 case h_4 op t x y yt ho=>
  split at h
  .rename_i r hr;simp only[QY]at h;subst h;exact QkK hX.L ho hr hp
  .exact Qlk hX.E ho h
 case h_5 u t x ho=>
  split at h
  .rename_i b hx;simp only[QY,Q9]at h;obtain⟨rfl,rfl⟩:=h;exact QkS ho rfl hx
  .rename_i k n hx;simp only[QY,Q9]at h;obtain⟨rfl,rfl⟩:=h;exact QkT ho rfl hx
  .rename_i k n hx;simp only[QY,Q9]at h;obtain⟨rfl,rfl⟩:=h;exact QkU ho rfl hx
  .cases h
 case h_6 a b x ho=>exact QkW hX.L ho h
 case h_7 t parts ho=>
  split at h
  .rename_i dd hd;simp only[QY,Q9]at h;obtain⟨rfl,rfl⟩:=h;exact Qlf hX.L ho hd
  .cases h
 case h_8 t x ho=>exact Qkk hX.L ho h hp
 case h_9 x ho=>
  obtain⟨ht,h2⟩:=zN h;simp only[QY,Q9]at h2;obtain⟨rfl,rfl⟩:=h2;exact QkV ho rfl ht
 case h_10 t x f ho=>exact QkM hX.L ho h hp
 case h_11 t x f ho=>exact QkN hX.L ho h hp
 case h_12 t x i ho=>exact QkQ hX.L ho h hp
 case h_13 t x i ho=>exact iN hX.L ho h hp
 case h_14 x i ho=>
  split at h
  .rename_i cs hx;simp only[QY,Q9]at h;obtain⟨rfl,rfl⟩:=h;exact QkR ho hx hp
  .cases h
 case h_15 t x lo hi mx ho=>
  split at h
  .exact Qlj hX.L ho h hp
  .cases h
 case h_16 fn first Qs ho=>
  split at h
  .simp only[QY,Q9]at h;obtain⟨rfl,rfl⟩:=h;exact QkZ ho
  .cases h
 case h_17 b args Zl ho=>
  split at h
  .split at h
   .rename_i r hr;simp only[QY]at h;subst h;exact UP hX.L ho hr
   .exact QlB hX.L ho rfl h hp
  .split at h
   .rename_i k m k' n hx hy;simp only[QY,Q9]at h;obtain⟨rfl,rfl⟩:=h;exact QkX ho hx hy
   .cases h
  .split at h
   .rename_i k m k' n hx hy;simp only[QY,Q9]at h;obtain⟨rfl,rfl⟩:=h;exact QkY ho hx hy
   .cases h
  .cases h
 case h_18 t x i ok ho=>
  split at h
  .rename_i r hr;simp only[QY]at h;subst h;exact look_ok hX.L ho hr hp
  .obtain⟨rfl,h2⟩:=zN h;exact QlQ hX.L hX.E ho h2 hp
 case h_19=>cases h
def yy(X:Cx)(s:St):Op->Option (Prop × List Ob × D)
 | .alloc t=>match ty X.L t with
  | some y=>some (True,s.h++[⟨.one,0,(y.zero.map J4).length,1,λ_=>y.zero.map J4⟩],.ptr s.h.length 0 0 0)
  | none=>none
 | .box _ x=>match XP (Qo s.fr x) with
  | some cs=>some (True,s.h++[⟨.one,0,cs.length,1,λ_=>cs⟩],.ptr s.h.length 0 0 0)
  | none=>none
 | .store t a x=>match PI X.L s.h t (Qo s.fr a) (Qo s.fr x) with
  | some (p,h')=>some (p,h',.undef)
  | none=>none
 | .buildSlice t len parts=>U0 X.L s.fr s.h t len parts.toList
 | .call ⟨.builtin b,⟨args⟩,⟨Zl⟩⟩=>match b,args,Zl with
  | .append,[x,y],[t,t']=>bif Nat.beq t t' then BY X.L s.h t (Qo s.fr x) (Qo s.fr y) else none
  | .delete,[x,i],[t,_]=>match ar X.L s.h t (Qo s.fr x) (Qo s.fr i) with
   | some (p,h')=>some (p,h',.tup [])
   | none=>none
  | _,_,_=>none
 | .makeMap t rz=>match rz with
  | none=>Mu X.L s.h t
  | some (.const (.int _ n))=>bif decide (0<=n) then Mu X.L s.h t else none
  | some _=>none
 | .mapUpdate t x i v=>match FF X.L s.h t (Qo s.fr x) (Qo s.fr i) (Qo s.fr v) with
  | some (p,h')=>some (p,h',.undef)
  | none=>match az X.L X.E s.h t (Qo s.fr x) (Qo s.fr i) (Qo s.fr v) with
   | some (p,h')=>some (p,h',.undef)
   | none=>none
 | .range t x=>au X.L s.h t (Qo s.fr x)
 | _=>none
def QlS{L}{h}{t:TypeId}{s x}{r}(e:BY L h t s x=some r):s=.nil\/∃l g off len,s=.ref l g off len:=by
 unfold BY at e;split at e
 .split at e
  .exact .inl rfl
  .exact .inr ⟨_,_,_,_,rfl⟩
  .cases e
 .cases e
def QaT{P}{X}(hX:qH P X){base nt}{s}{o:Oper}{p}{h'}{d}(h:yy X s o.op=some (p,h',d))(hp:p):zO P base nt o s h' d:=by
 unfold yy at h;split at h;case h_1 t ho=>
  split at h
  .rename_i y hy;simp only[QY,Q9]at h;obtain⟨rfl,rfl,rfl⟩:=h;exact Qk5 hX.L ho hy
  .cases h
 case h_2 t x ho=>
  split at h
  .rename_i cs hc;simp only[QY,Q9]at h;obtain⟨rfl,rfl,rfl⟩:=h;exact Qk4 ho hc
  .cases h
 case h_3 t a x ho=>
  split at h
  .rename_i p' Yt hs;simp only[QY,Q9]at h;obtain⟨rfl,rfl,rfl⟩:=h;exact Qk3 hX.L ho hs hp
  .cases h
 case h_4 t len parts ho=>exact Qlg hX.L ho h hp
 case h_5 b args Zl ho=>
  split at h
  .obtain⟨ht,h2⟩:=zN h;have ht:=Pt ht;subst ht;rcases QlS h2 with e|⟨l,g,off,len,e⟩
   .rw[e]at h2;exact Qlb hX.L ho e h2 hp
   .rw[e]at h2;exact Qlc hX.L ho e h2 hp
  .split at h
   .rename_i p' Yt hs;simp only[QY,Q9]at h;obtain⟨rfl,rfl,rfl⟩:=h;exact QlD hX.L ho hs hp
   .cases h
  .cases h
 case h_6 t rz ho=>
  split at h
  .exact QaA hX.L (.inl rfl) ho h
  .rename_i k n;obtain⟨hn,h2⟩:=zN h;exact QaA hX.L (.inr ⟨k,n,rfl,X8 hn⟩) ho h2
  .cases h
 case h_7 t x i v ho=>
  split at h
  .rename_i p' Yt hs;simp only[QY,Q9]at h;obtain⟨rfl,rfl,rfl⟩:=h;exact QlC hX.L ho hs hp
  .split at h
   .rename_i p' Yt hs;simp only[QY,Q9]at h;obtain⟨rfl,rfl,rfl⟩:=h;exact QlR hX.L hX.E ho hs hp
   .cases h
 case h_8 t x ho=>exact QlG hX.L ho h hp
 case h_9=>cases h
abbrev G:=Option (Option Nat × Bool)
def guardOf(ops:Array Oper)(o:Oper):G:=match o.guard with
 | none=>none
 | some (j,b)=>some ((ops[j]?).bind (·.dst),b)
def strip(o : Oper): Oper := ⟨o.dst, o.op, o.type, "", #[], none⟩
theorem QlT{P}{o:Oper}{a}{w}{K}{Q}:(strip o).wp P a w K Q=o.wp P a w K Q:=rfl
def AN(ops:Array Oper):List (Oper × G):=ops.toList.map λo=>(strip o,guardOf ops o)
def Mx(tmps:Array Value)(t:Nat):Option Bool:=match tmps[t]? with
 | some (.bool b)=>some b
 | _=>none
def W3(g:G)(tmps:Array Value):Bool:=match g with
 | none=>true
 | some (none,_)=>false
 | some (some t,b)=>Mx tmps t==some b
def My(ops)(o)(tmps):Region.wanted o (yielded ops tmps)=W3 (guardOf ops o) tmps:=by
 unfold Region.wanted guardOf W3;cases hg:o.guard with
 | none=>rfl
 | some jb=>
  obtain⟨j,b⟩:=jb;dsimp only;cases hd:(ops[j]?).bind (·.dst) with
  | none=>simp[yielded,hd]
  | some t=>
   simp only[yielded,hd,Ux,Mx];cases ht:tmps[t]? with
   | none=>rfl
   | some v=>cases v<;>rfl
def Yx(P:Program)(Q:Exit->Act->World->Prop):List (Oper × G)->Act->World->Prop
 | [],a,w=>Q .normal a w
 | (o,g)::r,a,w=>if W3 g a.tmps=true then o.wp P a w (Yx P Q r) Q else Yx P Q r (a.put o.dst Go.undef) w
def lQ{P}{ops:Array Oper}{Q}:∀(n i:Nat) (a:Act) (w:World),i+n=ops.size->Yx P Q ((AN ops).drop i) a w->wpOps P ops Q (List.range' i n) a w
 | 0,i,a,w,hi,h=>by
  have:(AN ops).drop i=[]:=Pb (by simp[AN];omega);rw[this]at h;exact h
 | n+1,i,a,w,hi,h=>by
  have Qb:i<ops.size:=ω;have hd:(AN ops).drop i=(strip ops[i],guardOf ops ops[i])::(AN ops).drop (i+1):=by
   rw[Pa (by simp[AN];omega)];simp[AN]
  rw[hd]at h;rw[List.range'_succ];simp only[wpOps,zJ Qb,My];simp only[Yx]at h;split at h
  .rename_i hw;rw[Qd hw];refine .inl ?_;have mono:∀(K K':Act->World->Prop),(∀a w,K a w->K' a w)->ops[i].wp P a w K Q->ops[i].wp P a w K' Q:=by
    intro K K' hk hh;unfold Oper.wp at *;generalize (execOp a.eval ops[i]).run P w=r at *;cases r with
    | ok x w'=>
     cases x<;>simp only[Oper.upon]at hh ⊢<;>first|exact hk _ _ hh|exact hh|skip
     .exact hh.mono λe Hn he=>by cases e<;>first|exact hk _ _ he|exact he
     .exact hh.mono λv Hn he=>hk _ _ he
    | halt x w'=>cases x<;>exact hh
   rw[QlT]at h;exact mono _ _ (λa w=>lQ n (i+1) a w ω) h
  .rename_i hw;rw[Qc hw];exact lQ n (i+1) _ w ω h
def QlU{P}{id}{ops}{Q}{a}{w}(h:Yx P Q (AN ops) a w):(Code.region id ops false).wp P Q a w:=
 wp_region (by rw[List.range_eq_range'];exact lQ ops.size 0 a w ω (by simpa using h))
structure Start where
 w:World
 F:List Ob
 pl:List Pl
structure HF (Z:Nat->Prop) (w0:Start) (pl:List Pl) (w:World):Prop where
 new:∀b,w.heap.size<=b->Z b
 own:∀(l b q:Nat),pl[l]? = some (some (b,q))->w0.w.heap.size<=b->Z b
def HF.step{Z}{w0}{h h'}{pl Qi}{w w':World}(S:HF Z w0 pl w)(T:Tr h pl w h' Qi w')(hs:w.heap.size<=w'.heap.size):HF Z w0 Qi w' where
 new:=λb hb=>S.new b ω
 own:=λl b q e h0=>by
  rcases w9 b w.heap.size with Qb|Yb
  .by_cases ha:W0 pl b
   .exact absurd e ((T.J3 b ha Qb).1 l q)
   .obtain⟨l1,h1⟩:=LW.1 ha;obtain⟨q1,h2⟩:=LW.1 h1;exact S.own l1 b q1 (Classical.not_not.1 h2) h0
  .exact S.new b Yb
def HF.start{Z}{base}{w0:Start}{h}{pl}(R:Zi Z base h pl w0.w)(hz:∀b,w0.w.heap.size<=b->Z b):HF Z w0 pl w0.w where
 new:=hz
 own:=λl b q e h0=>absurd (R.lt e).1 ω
def KX(Z:Nat->Prop)(base:Nat)(w0:Start)(h:List Ob)(pl:List Pl)(w:World):Prop:=Below base w0.w w/\Tr w0.F w0.pl w0.w h pl w/\HF Z w0 pl w
def KX.step{Z}{base}{w0}{h h'}{pl Qi}{w w'}(S:KX Z base w0 h pl w)(T:Tr h pl w h' Qi w')(b:Below base w w'):KX Z base w0 h' Qi w':=⟨S.1.trans b,S.2.1.trans T,S.2.2.step T b.size⟩
section
variable (P:Program)(base nt:Nat)(w0:Start)
def PV(_:Start)(_:Nat->Prop):Prop:=True
def lift(Z:Nat->Prop)(Q:Exit->St->Prop)(e:Exit)(a:Act)(w:World):Prop:=∃s pl,Q e s/\Rel Z base nt s pl a w/\KX Z base w0 s.h pl w
def A(c:Code)(Q:Exit->St->Prop)(s:St):Prop:=∀(Z:Nat->Prop),PV w0 Z->∀pl a w,Rel Z base nt s pl a w->KX Z base w0 s.h pl w->c.wp P (lift base nt w0 Z Q) a w
def AG(l:List (Oper × G))(Q:Exit->St->Prop)(s:St):Prop:=∀(Z:Nat->Prop),PV w0 Z->∀pl a w,Rel Z base nt s pl a w->KX Z base w0 s.h pl w->Yx P (lift base nt w0 Z Q) l a w
end
inductive Item where
 | code (c:Code)
 | ops (l:List (Oper × G))
 | inBlock (id:Nat)
 | inScope
def Qv(P:Program)(base nt:Nat)(w0:Start)(Q:Exit->St->Prop):List Item->Exit->St->Prop
 | [],e,s=>Q e s
 | .code c::k,.normal,s=>A P base nt w0 c (Qv P base nt w0 Q k) s
 | .code _::k,e,s=>Qv P base nt w0 Q k e s
 | .ops l::k,.normal,s=>AG P base nt w0 l (Qv P base nt w0 Q k) s
 | .ops _::k,e,s=>Qv P base nt w0 Q k e s
 | .inBlock id::k,.exit j,s=>if j=id then Qv P base nt w0 Q k .normal s else Qv P base nt w0 Q k (.exit j) s
 | .inBlock _::k,e,s=>Qv P base nt w0 Q k e s
 | .inScope::_,.goto _,_=>False
 | .inScope::k,e,s=>Qv P base nt w0 Q k e s
inductive Tree where
 | done (e:Exit) (s:St)
 | stop (k:List Item) (s:St)
 | vc (p:Prop) (t:Tree)
 | ite (b:Bool) (t e:Tree)
 | fail
def Tree.holds(P:Program)(base nt:Nat)(w0:Start)(Q:Exit->St->Prop):Tree->Prop
 | .done e s=>Q e s
 | .stop k s=>Qv P base nt w0 Q k .normal s
 | .vc p t=>p/\t.holds P base nt w0 Q
 | .ite b t e=>(b=true->t.holds P base nt w0 Q)/\(b=false->e.holds P base nt w0 Q)
 | .fail=>False
def zS(id:Nat):List Item->Option (List Item)
 | []=>none
 | .inBlock j::k=>bif Nat.beq id j then some k else zS id k
 | _::k=>zS id k
def Za(fr:List (Nat × D))(t:Option Nat)(d:D):List (Nat × D):=match t with
 | none=>fr
 | some t=>put fr t d
def Zk(nt:Nat):Option Nat->Bool
 | none=>true
 | some t=>Nat.blt t nt
def DB:Bool->Bool->Bool
 | true,x=>x
 | false,x=>!x
def QaU(b x):DB b x=(x==b):=by cases b<;>cases x<;>rfl
def exec(X:Cx)(nt:Nat):Nat->List Item->St->Tree
 | 0,k,s=>.stop k s
 | _+1,[],s=>.done .normal s
 | n+1,.inBlock _::k,s=>exec X nt n k s
 | n+1,.inScope::k,s=>exec X nt n k s
 | n+1,.code c::k,s=>match c with
  | .skip=>exec X nt n k s
  | .label _=>exec X nt n k s
  | .seq a b=>exec X nt n (.code a::.code b::k) s
  | .cond c a b=>match Qo s.fr c with
   | .raw (.bool x)=>.ite x (exec X nt n (.code a::k) s) (exec X nt n (.code b::k) s)
   | _=>.fail
  | .block id c=>exec X nt n (.code c::.inBlock id::k) s
  | .scope c=>exec X nt n (.code c::.inScope::k) s
  | .exit id=>match zS id k with
   | some k'=>exec X nt n k' s
   | none=>.done (.exit id) s
  | .ret=>.done .ret s
  | .region id ops dr=>bif dr then .stop (.code (.region id ops dr)::k) s else exec X nt n (.ops (AN ops)::k) s
  | c=>.stop (.code c::k) s
 | n+1,.ops []::k,s=>exec X nt n k s
 | n+1,.ops ((o,g)::r)::k,s=>match g with
  | none=>match xq X s o.op with
   | some (p,d)=>bif Zk nt o.dst then .vc p (exec X nt n (.ops r::k) ⟨Za s.fr o.dst d,s.h⟩) else .fail
   | none=>match yy X s o.op with
    | some (p,h',d)=>bif Zk nt o.dst then .vc p (exec X nt n (.ops r::k) ⟨Za s.fr o.dst d,h'⟩) else .fail
    | none=>.stop (.ops ((o,none)::r)::k) s
  | some (none,_)=>bif Zk nt o.dst then exec X nt n (.ops r::k) ⟨Za s.fr o.dst (.raw Go.undef),s.h⟩ else .fail
  | some (some t,b)=>match get s.fr t with
   | .raw (.bool x)=>.ite (DB b x) (exec X nt n (.ops ((o,none)::r)::k) ⟨put s.fr t (.raw (.bool b)),s.h⟩)
     (bif Zk nt o.dst then exec X nt n (.ops r::k) ⟨Za (put s.fr t (.raw (.bool (!b)))) o.dst (.raw Go.undef),s.h⟩ else .fail)
   | .raw (.tuple _)=>bif Zk nt o.dst then exec X nt n (.ops r::k) ⟨Za s.fr o.dst (.raw Go.undef),s.h⟩ else .fail
   | _=>.fail
section
variable {P:Program}{base nt:Nat}{w0:Start}{Q:Exit->St->Prop}
def A.mono{c}{Q Q'}{s}(h:A P base nt w0 c Q s)(hq:∀e s,Q e s->Q' e s):A P base nt w0 c Q' s:=
 λZ z pl a w r b=>wp_mono (h Z z pl a w r b) λ_ _ _ ⟨s',Qi,h1,h2,h3⟩=>⟨s',Qi,hq _ _ h1,h2,h3⟩
def QlV{x y}{s}(h:A P base nt w0 x (λe s'=>match e with | .normal=>A P base nt w0 y Q s'|e=>Q e s') s):A P base nt w0 (.seq x y) Q s:=by
 intro Z z pl a w r b;refine wp_seq (wp_mono (h Z z pl a w r b) λe a' w' hh=>?_);obtain⟨s',Qi,h1,h2,h3⟩:=hh;cases e with
 | normal=>exact h1 Z z Qi a' w' h2 h3
 | exit id=>exact⟨s',Qi,h1,h2,h3⟩
 | goto l=>exact⟨s',Qi,h1,h2,h3⟩
 | ret=>exact⟨s',Qi,h1,h2,h3⟩
 | panic ch=>exact⟨s',Qi,h1,h2,h3⟩
 | outgrown=>exact⟨s',Qi,h1,h2,h3⟩
def QlW{id}{c}{s}(h:A P base nt w0 c (λe s'=>match e with | .exit j=>if j=id then Q .normal s' else Q (.exit j) s'|e=>Q e s') s):A P base nt w0 (.block id c) Q s:=by
 intro Z z pl a w r b;refine wp_block (wp_mono (h Z z pl a w r b) λe a' w' hh=>?_);obtain⟨s',Qi,h1,h2,h3⟩:=hh;cases e with
 | exit j=>
  simp only[Exit.inBlock];dsimp only at h1;split
  .rename_i hj;rw[Qd hj]at h1;exact⟨s',Qi,h1,h2,h3⟩
  .rename_i hj;rw[Qc hj]at h1;exact⟨s',Qi,h1,h2,h3⟩
 | normal=>exact⟨s',Qi,h1,h2,h3⟩
 | goto l=>exact⟨s',Qi,h1,h2,h3⟩
 | ret=>exact⟨s',Qi,h1,h2,h3⟩
 | panic ch=>exact⟨s',Qi,h1,h2,h3⟩
 | outgrown=>exact⟨s',Qi,h1,h2,h3⟩
def QlX{c}{s}(h:A P base nt w0 c (λe s'=>match e with | .goto _=>False|e=>Q e s') s):A P base nt w0 (.scope c) Q s:=by
 intro Z z pl a w r b;refine wp_scope_straight (wp_mono (h Z z pl a w r b) λe a' w' hh=>?_);obtain⟨s',Qi,h1,h2,h3⟩:=hh;cases e with
 | goto l=>exact h1.elim
 | normal=>exact⟨s',Qi,h1,h2,h3⟩
 | exit j=>exact⟨s',Qi,h1,h2,h3⟩
 | ret=>exact⟨s',Qi,h1,h2,h3⟩
 | panic ch=>exact⟨s',Qi,h1,h2,h3⟩
 | outgrown=>exact⟨s',Qi,h1,h2,h3⟩
def QlY{c}{k}{s}(h:Qv P base nt w0 Q (.code c::.inScope::k) .normal s):Qv P base nt w0 Q (.code (.scope c)::k) .normal s:=by
 simp only[Qv]at h ⊢;refine QlX (h.mono λe s' he=>?_);cases e<;>exact he
def qa{a b}{k}{s}(h:Qv P base nt w0 Q (.code a::.code b::k) .normal s):Qv P base nt w0 Q (.code (.seq a b)::k) .normal s:=by
 simp only[Qv]at h ⊢;refine QlV (h.mono λe s' he=>?_);cases e<;>exact he
def QlZ{id}{c}{k}{s}(h:Qv P base nt w0 Q (.code c::.inBlock id::k) .normal s):Qv P base nt w0 Q (.code (.block id c)::k) .normal s:=by
 simp only[Qv]at h ⊢;refine QlW (h.mono λe s' he=>?_);cases e<;>exact he
def Ql0{c}{x y}{k}{s:St}{t}(hc:Qo s.fr c=.raw (.bool t))(h1:t=true->Qv P base nt w0 Q (.code x::k) .normal s)(h2:t=false->Qv P base nt w0 Q (.code y::k) .normal s):
  Qv P base nt w0 Q (.code (.cond c x y)::k) .normal s:=by
 simp only[Qv]at h1 h2 ⊢;intro Z z pl a w r b;have he:=r.eval c;rw[hc]at he;have:=Jn he;cases t
 .exact wp_cond_false this (h2 rfl Z z pl a w r b)
 .exact wp_cond_true this (h1 rfl Z z pl a w r b)
def PW{id}:∀{k k':List Item} {s:St},zS id k=some k'->Qv P base nt w0 Q k' .normal s->Qv P base nt w0 Q k (.exit id) s
 | [],k',s,h,_=>by simp[zS]at h
 | .code c::k,k',s,h,hk=>by simp only[zS]at h;simp only[Qv];exact PW h hk
 | .ops c::k,k',s,h,hk=>by simp only[zS]at h;simp only[Qv];exact PW h hk
 | .inScope::k,k',s,h,hk=>by simp only[zS]at h;simp only[Qv];exact PW h hk
 | .inBlock j::k,k',s,h,hk=>by
  simp only[zS]at h;simp only[Qv];by_cases hj:id=j
  .subst hj;simp at h;subst h;rw[Qd rfl];exact hk
  .have:Nat.beq id j=false:=by rw[<- Ys,Wa];exact hj
   rw[this]at h;rw[Qc hj];exact PW h hk
def PX{id}:∀{k:List Item} {s:St},zS id k=none->Q (.exit id) s->Qv P base nt w0 Q k (.exit id) s
 | [],s,_,hq=>hq
 | .code c::k,s,h,hq=>by simp only[zS]at h;simp only[Qv];exact PX h hq
 | .ops c::k,s,h,hq=>by simp only[zS]at h;simp only[Qv];exact PX h hq
 | .inScope::k,s,h,hq=>by simp only[zS]at h;simp only[Qv];exact PX h hq
 | .inBlock j::k,s,h,hq=>by
  simp only[zS]at h;simp only[Qv];by_cases hj:id=j
  .subst hj;simp at h
  .have:Nat.beq id j=false:=by rw[<- Ys,Wa];exact hj
   rw[this]at h;rw[Qc hj];exact PX h hq
def PY:∀{k:List Item} {s:St},Q .ret s->Qv P base nt w0 Q k .ret s
 | [],_,hq=>hq
 | .code _::_,_,hq=>by simp only[Qv];exact PY hq
 | .ops _::_,_,hq=>by simp only[Qv];exact PY hq
 | .inBlock _::_,_,hq=>by simp only[Qv];exact PY hq
 | .inScope::_,_,hq=>by simp only[Qv];exact PY hq
def jE{t}(h:Zk nt (some t)=true):t<nt:=by simpa[Zk,vL] using h
def Rel.skip{s:St}{pl}{a:Act}{w}(r:Rel Z base nt s pl a w){t}(ht:Zk nt t=true):Rel Z base nt ⟨Za s.fr t (.raw Go.undef),s.h⟩ pl (a.put t Go.undef) w:=by
 cases t with
 | none=>exact r
 | some t=>exact r.to (Tr.ext r.o λ_ _=>rfl) r.o (jE ht) (.cl _ _ (.raw _))
def lS{o:Oper}{rest}{s:St}{d}(h:Wd P base nt o s d)(ht:Zk nt o.dst=true)(hk:AG P base nt w0 rest Q ⟨Za s.fr o.dst d,s.h⟩):AG P base nt w0 ((o,none)::rest) Q s:=by
 intro Z z pl a w r b;obtain⟨v,hv,Ze⟩:=h Z pl a w r;simp only[Yx,W3,Vs];unfold Oper.wp;rw[Ze w λ_ _=>rfl];simp only[Oper.upon_value];refine hk Z z pl _ w ?_ b;cases hd:o.dst with
 | none=>exact r
 | some t=>rw[hd]at ht;exact r.to (Tr.ext r.o λ_ _=>rfl) r.o (jE ht) hv
def aA(Q1:base<=w0.w.heap.size){o:Oper}{rest}{s:St}{h'}{d}(h:zO P base nt o s h' d)(ht:Zk nt o.dst=true)(hk:AG P base nt w0 rest Q ⟨Za s.fr o.dst d,h'⟩):AG P base nt w0 ((o,none)::rest) Q s:=by
 intro Z z pl a w r b;obtain⟨v,w',Qi,Ze,hT,hO,hv,hb,_⟩:=h Z pl a w r (Ki Q1 b.1.size);have fin:∀u,u=v->Rel Z base nt ⟨Za s.fr o.dst d,h'⟩ Qi (a.put o.dst u) w':=by
  rintro u rfl;cases hd:o.dst with
  | none=>exact r.ym hT hO u
  | some t=>rw[hd]at ht;exact r.to hT hO (jE ht) hv
 simp only[Yx,W3,Vs];unfold Oper.wp;rcases Ze with Ze|⟨Ze,hu⟩
 .rw[Ze];simp only[Oper.upon_value];exact hk Z z Qi _ w' (fin v rfl) (b.step hT hb)
 .rw[Ze];simp only[Oper.upon_skip];exact hk Z z Qi _ w' (fin _ hu.symm) (b.step hT hb)
def lT{tmps:Array Value}{t}{b}(h:tmps.getD t Go.undef=.bool b):Mx tmps t=some b:=by
 unfold Mx;rw[wX]at h;cases hh:tmps[t]? with
 | none=>rw[hh]at h;simp[Go.undef]at h
 | some v=>rw[hh]at h;simp at h;rw[h]
def lU{tmps:Array Value}{t}{vs}(h:tmps.getD t Go.undef=.tuple vs):Mx tmps t=none:=by
 unfold Mx;rw[wX]at h;cases hh:tmps[t]? with
 | none=>rfl
 | some v=>rw[hh]at h;simp at h;rw[h]
def Rel.tell{s:St}{pl}{a:Act}{w}(r:Rel Z base nt s pl a w){t}{d}(hd:QC Z s.h pl w d (a.tmps.getD t Go.undef)):Rel Z base nt ⟨put s.fr t d,s.h⟩ pl a w:=
 ⟨r.nt,r.defers,λu=>by
  rw[Fs];by_cases h:u=t
  .subst h;rw[Qd rfl];exact hd
  .rw[Qc h];exact r.fr u,r.o⟩
def Ql1{o:Oper}{rest}{s:St}{t}{b x}(hx:get s.fr t=.raw (.bool x))(ht:Zk nt o.dst=true\/x=b)
  (h1:x=b->AG P base nt w0 ((o,none)::rest) Q ⟨put s.fr t (.raw (.bool b)),s.h⟩) (h2:x=(!b)->AG P base nt w0 rest Q ⟨Za (put s.fr t (.raw (.bool (!b)))) o.dst (.raw Go.undef),s.h⟩):AG P base nt w0 ((o,some (some t,b))::rest) Q s:=by
 intro Z z pl a w r bb;have hr:=r.fr t;rw[hx]at hr;have hv:=Jn hr;have hb:=lT hv;simp only[Yx,W3,hb];by_cases B4:x=b
 .have:=h1 B4 Z z pl a w (r.tell (by rw[hv,B4];exact .cl _ _ (.raw _))) bb;simp only[Yx,W3,Vs]at this;rw[Qd (by simp[B4])];exact this
 .have FM:x=(!b):=by cases x<;>cases b<;>simp_all
  rw[Qc (by simp[B4])];have r2:Rel Z base nt ⟨put s.fr t (.raw (.bool (!b))),s.h⟩ pl a w:=r.tell (by rw[hv,FM];exact .cl _ _ (.raw _));exact h2 FM Z z pl _ w (r2.skip (ht.resolve_right B4)) bb
def QaV{o:Oper}{rest}{s:St}{g:Option Nat × Bool}(hg:g.1=none\/∃t vs,g.1=some t/\get s.fr t=.raw (.tuple vs))(ht:Zk nt o.dst=true)(h:AG P base nt w0 rest Q ⟨Za s.fr o.dst (.raw Go.undef),s.h⟩):AG P base nt w0 ((o,some g)::rest) Q s:=by
 intro Z z pl a w r bb;obtain⟨g1,b⟩:=g;have:W3 (some (g1,b)) a.tmps=false:=by
  rcases hg with rfl|⟨t,vs,rfl,hx⟩
  .rfl
  .have hr:=r.fr t;rw[hx]at hr;simp[W3,lU (Jn hr)]
 simp only[Yx,this,q7,vN];exact h Z z pl _ w (r.skip ht) bb
def jF{X}(hX:qH P X)(Q1:base<=w0.w.heap.size):∀(n:Nat) (k:List Item) (s:St),(exec X nt n k s).holds P base nt w0 Q->Qv P base nt w0 Q k .normal s
 | 0,k,s,h=>by cases k<;>exact h
 | n+1,[],s,h=>h
 | n+1,.inBlock id::k,s,h=>by
  simp only[exec]at h;simp only[Qv];exact jF hX Q1 n k s h
 | n+1,.inScope::k,s,h=>by
  simp only[exec]at h;simp only[Qv];exact jF hX Q1 n k s h
 | n+1,.code c::k,s,h=>by
  cases c with
  | skip=>simp only[exec]at h;have:=jF hX Q1 n k s h;simp only[Qv];exact λZ z pl a w r b=>wp_skip ⟨s,pl,this,r,b⟩
  | label l=>simp only[exec]at h;have:=jF hX Q1 n k s h;simp only[Qv];exact λZ z pl a w r b=>wp_label ⟨s,pl,this,r,b⟩
  | seq x y=>simp only[exec]at h;exact qa (jF hX Q1 n _ s h)
  | block id c=>simp only[exec]at h;exact QlZ (jF hX Q1 n _ s h)
  | cond c x y=>
   simp only[exec]at h;split at h
   .rename_i b hb;exact Ql0 hb (λe=>jF hX Q1 n _ s (h.1 e)) (λe=>jF hX Q1 n _ s (h.2 e))
   .exact h.elim
  | exit id=>
   simp only[exec]at h;simp only[Qv];split at h
   .rename_i k' hk;have:=PW hk (jF hX Q1 n k' s h);exact λZ z pl a w r b=>wp_exit ⟨s,pl,this,r,b⟩
   .rename_i hk;have:=PX (P:=P) (base:=base) (nt:=nt) (w0:=w0) hk h;exact λZ z pl a w r b=>wp_exit ⟨s,pl,this,r,b⟩
  | ret=>
   simp only[exec]at h;simp only[Qv];exact λZ z pl a w r b=>wp_ret ⟨s,pl,PY h,r,b⟩
  | region id ops dr=>
   simp only[exec]at h;cases dr
   .have:=jF hX Q1 n _ s h;simp only[Qv]at this ⊢;exact λZ z pl a w r b=>QlU (this Z z pl a w r b)
   .exact h
  | loop c=>exact h
  | rangeFunc f ps a b=>exact h
  | scope b=>simp only[exec]at h;exact QlY (jF hX Q1 n _ s h)
  | goto l=>exact h
  | refuse w=>exact h
 | n+1,.ops []::k,s,h=>by
  simp only[exec]at h;simp only[Qv];have:=jF hX Q1 n k s h;exact λZ z pl a w r b=>⟨s,pl,this,r,b⟩
 | n+1,.ops ((o,g)::r)::k,s,h=>by
  have pr:∀s',Zk nt o.dst=true\/True->(exec X nt n (.ops r::k) s').holds P base nt w0 Q->AG P base nt w0 r (Qv P base nt w0 Q k) s':=λs' _ hh=>by
   have:=jF hX Q1 n (.ops r::k) s' hh;simpa only[Qv] using this
  cases g with
  | none=>
   simp only[exec]at h;simp only[Qv];split at h
   .rename_i p d hp;cases ht:Zk nt o.dst
    .rw[ht]at h;exact h.elim
    .rw[ht]at h;exact lS (QaS hX hp h.1) ht (pr _ (.inl ht) h.2)
   .split at h
    .rename_i p h' d hp;cases ht:Zk nt o.dst
     .rw[ht]at h;exact h.elim
     .rw[ht]at h;exact aA Q1 (QaT hX hp h.1) ht (pr _ (.inl ht) h.2)
    .simpa only[Tree.holds,Qv] using h
  | some g=>
   obtain⟨g1,b⟩:=g;cases g1 with
   | none=>
    simp only[exec]at h;simp only[Qv];cases ht:Zk nt o.dst
    .rw[ht]at h;exact h.elim
    .rw[ht]at h;exact QaV (.inl rfl) ht (pr _ (.inl ht) h)
   | some t=>
    simp only[exec]at h;simp only[Qv];split at h
    .rename_i x hx;simp only[Tree.holds,QaU,jr,zL,ne_eq]at h;have h3:=λe=>jF hX Q1 n _ _ (h.1 e);simp only[Qv]at h3;refine Ql1 hx ?_ h3 λe=>?_
     .by_cases B4:x=b
      .exact .inr B4
      .have:=h.2 B4;cases ht:Zk nt o.dst
       .rw[ht]at this;exact this.elim
       .exact .inl rfl
     .have:=h.2 (by rw[e];cases b<;>simp);cases ht:Zk nt o.dst
      .rw[ht]at this;exact this.elim
      .rw[ht]at this;exact pr _ (.inl ht) this
    .rename_i vs hx;cases ht:Zk nt o.dst
     .rw[ht]at h;exact h.elim
     .rw[ht]at h;exact QaV (.inr ⟨t,_,rfl,hx⟩) ht (pr _ (.inl ht) h)
    .exact h.elim
end
variable {Z:Nat->Prop}
mutual
def D.shift(k:Nat):D->D
 | .ref l g off len=>.ref (k+l) g off len
 | .ptr l g i j=>.ptr (k+l) g i j
 | .mref l g=>.mref (k+l) g
 | .clo f nf cs=>.clo f nf (xr k cs)
 | .agg cs=>.agg (xr k cs)
 | .tup cs=>.tup (xr k cs)
 | d=>d
def xr(k:Nat):List D->List D
 | []=>[]
 | c::cs=>c.shift k::xr k cs
end
def Ob.shift(k:Nat)(o:Ob):Ob:={ o with row:=λi=>xr k (o.row i) }
def vU(k):∀cs:List D,(xr k cs).length=cs.length
 | []=>rfl
 | _::cs=>by simp[xr,vU k cs]
def FN(k):∀(cs:List D) (i:Nat),i<cs.length->nth (xr k cs) i=(nth cs i).shift k
 | [],i,h=>by simp at h
 | c::cs,0,_=>by simp[xr,nth]
 | c::cs,i+1,h=>by
  have:=FN k cs i (by simpa using h);simpa[xr,nth] using this
def QC.join{Zc}{h h':List Ob}{pl Qi:List Pl}{w}(hl:pl.length=h.length)(hf:∀b,free Zc Qi b->free Z (pl++Qi) b){d}{v}(r:QC Zc h' Qi w d v):
  QC Z (h++h'.map (Ob.shift h.length)) (pl++Qi) w (d.shift h.length) v:=by
 have Zf:∀(l:Nat) (o:Ob),h'[l]? = some o->(h++h'.map (Ob.shift h.length))[h.length+l]? = some (o.shift h.length):=λl o e=>by
  rw[Kb ω];simp[e]
 have Zh:∀(l:Nat) (p:Pl),Qi[l]? = some p->(pl++Qi)[h.length+l]? = some p:=λl p e=>by
  rw[Kb ω,hl];simp[e]
 have Z7:∀(d:D) (v:Value),Cl (free Zc Qi) w d v->QC Z (h++h'.map (Ob.shift h.length)) (pl++Qi) w (d.shift h.length) v:=by
  intro d v hc;have jx:=hc.mono (N':=free Z (pl++Qi)) (w':=w) (λb hb _=>⟨hf b hb,rfl⟩);clear hc;induction jx with
  | raw v=>exact .cl _ _ (.raw v)
  | undef v=>exact .cl _ _ (.undef v)
  | nil a=>exact .cl _ _ (.nil a)
  | imm sz n row a cap b o vs ha hl hs hc hr ih=>exact .cl _ _ (.imm sz n row a cap b o vs ha hl hs hc hr)
  | ip cells b o vs hc hr ih=>exact .cl _ _ (.ip cells b o vs hc hr)
  | clo f nf cs vs hl hr ih=>exact .clo f nf _ vs (by rw[vU];exact hl) (λi hi=>by rw[vU]at hi;rw[FN _ _ _ hi];exact ih i hi)
  | agg cs vs hl hr ih=>exact .agg _ vs (by rw[vU];exact hl) (λi hi=>by rw[vU]at hi;rw[FN _ _ _ hi];exact ih i hi)
  | tup cs vs hl hr ih=>exact .tup _ vs (by rw[vU];exact hl) (λi hi=>by rw[vU]at hi;rw[FN _ _ _ hi];exact ih i hi)
 induction r with
 | cl d v hc=>exact Z7 d v hc
 | ref l g off len o p a cap ho hp hk hg hs=>exact .ref _ g off len _ p a cap (Zf l o ho) (Zh l p hp) hk hg hs
 | ptr l g i j o p a ho hp hk hg hs=>exact .ptr _ g i j _ p a (Zf l o ho) (Zh l p hp) hk hg hs
 | mref l g o p b ho hp hk hg hs=>exact .mref _ g _ p b (Zf l o ho) (Zh l p hp) hk hg hs
 | clo f nf cs vs hl hr ih=>exact .clo f nf _ vs (by rw[vU];exact hl) (λi hi=>by rw[vU]at hi;rw[FN _ _ _ hi];exact ih i hi)
 | agg cs vs hl hr ih=>exact .agg _ vs (by rw[vU];exact hl) (λi hi=>by rw[vU]at hi;rw[FN _ _ _ hi];exact ih i hi)
 | tup cs vs hl hr ih=>exact .tup _ vs (by rw[vU];exact hl) (λi hi=>by rw[vU]at hi;rw[FN _ _ _ hi];exact ih i hi)
def Tr.join{base}{h h'}{pl Qi:List Pl}{w w':World}(R:Zi Z base h pl w)(hb:Below w.heap.size w w')(JY:∀(l b q:Nat),Qi[l]? = some (some (b,q))->w.heap.size<=b):
  Tr h pl w (h++h') (pl++Qi) w' where
 J3:=λb Yy Qb=>by
  refine⟨λl q e=>?_,hb.block b Qb⟩;by_cases hl:l<pl.length
  .rw[JC hl]at e;exact Yy l q e
  .rw[Kb ω]at e;have:=JY _ _ _ e;omega
 obj:=λl o p ho hp=>⟨o,p,by rw[JC (KD ho)];exact ho,by rw[JC (Wc hp)];exact hp,QB _,rfl,λ_=>⟨rfl,rfl⟩⟩
 shape:=λl o o' b q ho Zv hg hp c el Xf=>⟨c,by rw[hb.block b (R.lt hp).1];exact Xf,rfl⟩
def Zi.join{Zc}{base}{h h'}{pl Qi}{w w':World}(R:Zi Z base h pl w)(Q1:base<=w.heap.size)(hb:Below w.heap.size w w')(R':Zi Zc w.heap.size h' Qi w')
  (hf:∀b,free Zc Qi b->free Z (pl++Qi) b) (JY:∀(l b q:Nat),Qi[l]? = some (some (b,q))->w.heap.size<=b):Zi Z base (h++h'.map (Ob.shift h.length)) (pl++Qi) w':=by
 have T:=Tr.join (h':=h'.map (Ob.shift h.length)) R hb JY;refine⟨by simp[R.len,R'.len],?_,?_,?_⟩
 .intro l l' b q q' e1 e2;by_cases h1:l<pl.length<;>by_cases h2:l'<pl.length
  .rw[JC h1]at e1;rw[JC h2]at e2;exact R.inj _ _ _ _ _ e1 e2
  .rw[JC h1]at e1;rw[Kb ω]at e2;have:=(R.lt e1).1;have:=JY _ _ _ e2;omega
  .rw[Kb ω]at e1;rw[JC h2]at e2;have:=(R.lt e2).1;have:=JY _ _ _ e1;omega
  .rw[Kb ω]at e1 e2;have:=R'.inj _ _ _ _ _ e1 e2;omega
 .intro l o ho hp;by_cases h1:l<h.length
  .rw[JC h1]at ho;rw[JC (by rw[R.len];exact h1)]at hp;exact R.VB l o ho hp
  .rw[Kb ω]at ho;rw[Kb (by rw[R.len];omega),R.len]at hp;simp only[Ks,VA]at ho;obtain⟨o',Zv,rfl⟩:=ho;exact R'.VB _ o' Zv hp
 .intro l o b q ho hp;by_cases h1:l<h.length
  .rw[JC h1]at ho;rw[JC (by rw[R.len];exact h1)]at hp;obtain⟨g1,x⟩:=R.at_ l o b q ho hp;exact⟨g1,x.to rfl rfl rfl (hb.block b (R.lt hp).1) (λ_ _=>rfl) λi j v _ _ hr=>hr.tr T⟩
  .rw[Kb ω]at ho;rw[Kb (by rw[R.len];omega),R.len]at hp;simp only[Ks,VA]at ho;obtain⟨o',Zv,rfl⟩:=ho;obtain⟨g1,x⟩:=R'.at_ _ o' b q Zv hp;refine⟨λ_=>by have:=JY _ _ _ hp;omega,x.to rfl rfl rfl rfl (λi _=>vU _ _) λi j v hi hj hr=>?_⟩;show QC Z _ _ _ (nth (xr _ (o'.row i)) j) v;rw[FN _ _ _ hj];exact hr.join R.len hf
def QH(P:Program)(f:FuncId)(F:List Ob)(args:List D)(R:D->List Ob->Prop):Prop:=
 ∀(Z:Nat->Prop) (base:Nat) (w:World) (pl:List Pl) (vs:List Value),base<=w.heap.size->(∀b,w.heap.size<=b->Z b)->Zi Z base F pl w ->
  vs.length=args.length->(∀i,i<args.length->QC Z F pl w (nth args i) (QZ vs i)) ->
  Calls P f vs.toArray w λe w'=>∃v d h Qi,e=.returned v/\R d h/\Zi Z base h Qi w'/\QC Z h Qi w' d v/\Tr F pl w h Qi w'/\Below base w w'
def QH.mono{P}{f}{F}{args}{R R'}(h:QH P f F args R)(hr:∀d h,R d h->R' d h):QH P f F args R':=λZ base w pl vs h1 h2 h3 h4 h5=>
 (h Z base w pl vs h1 h2 h3 h4 h5).mono λ_ _ ⟨v,d,hh,Qi,k1,k2,k3⟩=>⟨v,d,hh,Qi,k1,hr _ _ k2,k3⟩
def QW(P:Program)(f:FuncId)(args:List D)(R:D->List Ob->Prop):Prop:=QH P f [] args R
def QW.mono{P}{f}{args}{R R'}(h:QW P f args R)(hr:∀d h,R d h->R' d h):QW P f args R':=QH.mono h hr
def jG:List D->Nat->List (Nat × D)
 | [],_=>[]
 | d::r,i=>(i,d)::jG r (i+1)
def QaW:∀(args:List D) (i t:Nat),get (jG args i) t=if i<=t then nth args (t - i) else .undef
 | [],i,t=>by simp[jG,get,nth]
 | d::r,i,t=>by
  simp only[jG,get];by_cases h:i=t
  .subst h;simp[nth]
  .have:Nat.beq i t=false:=by rw[<- Ys,Wa];exact h
   rw[this];simp only[YW];rw[QaW r (i+1) t];by_cases h2:i+1<=t
   .rw[Qd h2,Qd ω];obtain⟨m,rfl⟩:∃m,t=i+(m+1):=⟨t - i - 1,ω⟩;rw[show i+(m+1) - (i+1)=m by omega,show i+(m+1) - i=m+1 by omega];simp[nth]
   .rw[Qc h2,Qc ω]
def DC(L:Z8)(s:St):List ResultVar->Option (Prop × List D)
 | []=>some (True,[])
 | .tmp t::r=>match DC L s r with
  | some (p,ds)=>some (p,get s.fr t::ds)
  | none=>none
 | .cell a ty::r=>match Hq L s.h ty (get s.fr a),DC L s r with
  | some (q,d),some (p,ds)=>some (q/\p,d::ds)
  | _,_=>none
def one:List D->D
 | [d]=>d
 | ds=>.tup ds
def AO(L:Z8)(rs:List ResultVar)(R:D->List Ob->Prop):Exit->St->Prop
 | .normal,s | .ret,s=>match DC L s rs with
  | some (p,ds)=>p/\R (one ds) s.h
  | none=>False
 | _,_=>False
def Mz(tmps:Array Value):ResultVar->Sem Value
 | .tmp t=>pure (tmps.getD t Go.undef)
 | .cell x t=>do loadVar t (<- asAddr (tmps.getD x Go.undef))
def lV(fn:Func)(tmps):results fn tmps=(do let vs <- fn.results.mapM (Mz tmps);pure (if h:vs.size=1 then vs[0] else .tuple vs)):=by
 unfold results;congr 2
def lW{P}{L}(hL:Z5 P L){base nt}{s}{pl}{a}{w}(r:Rel Z base nt s pl a w):∀(rs:List ResultVar) (p:Prop) (ds:List D),DC L s rs=some (p,ds)->p ->
  ∃vs:List Value,vs.length=ds.length/\(∀i,i<ds.length->QC Z s.h pl w (nth ds i) (QZ vs i)) /\
   (rs.mapM (Mz a.tmps)).run P w=.ok vs w
 | [],p,ds,h,_=>by simp[DC]at h;obtain⟨_,rfl⟩:=h;exact⟨[],rfl,λi hi=>by simp at hi,σ⟩
 | .tmp t::rs,p,ds,h,hp=>by
  simp only[DC]at h;split at h
  .rename_i q ds' hr;simp only[QY,Q9]at h;obtain⟨rfl,rfl⟩:=h;obtain⟨vs,h1,h2,h3⟩:=lW hL r rs _ _ hr hp;refine⟨a.tmps.getD t Go.undef::vs,by simp[h1],λi hi=>?_,by simp[List.mapM_cons,Mz,h3]⟩;cases i with
   | zero=>exact r.fr t
   | succ i=>have:=h2 i (by simpa using hi);simpa[nth,QZ] using this
  .cases h
 | .cell x t::rs,p,ds,h,hp=>by
  simp only[DC]at h;split at h
  .rename_i q d p' ds' hl hr;simp only[QY,Q9]at h;obtain⟨rfl,rfl⟩:=h;obtain⟨vs,h1,h2,h3⟩:=lW hL r rs _ _ hr hp.2;have ho := Qkk (P := P) (base := base) (nt := nt) (s := s) (o := ⟨none, .load t (.tmp x), 0, "", #[], none⟩) hL (t := t) (x := .tmp x) rfl hl hp.1;obtain⟨v,hv,Ze⟩:=ho Z pl a w r;have Ze:=Ze w (λ_ _=>rfl);refine⟨v::vs,by simp[h1],λi hi=>?_,?_⟩
   .cases i with
    | zero=>exact hv
    | succ i=>have:=h2 i (by simpa using hi);simpa[nth,QZ] using this
   .have hx:=r.fr x;have aB:(Mz a.tmps (.cell x t)).run P w=.ok v w:=by
     simp only[execOp,Act.eval,Instr.loadAt,Sem.run_bind]at Ze;simp only[Mz];have iQ:∃ad,a.tmps.getD x Go.undef=.pointer (some ad):=by
      unfold Hq at hl;split at hl
      .cases hl
      .split at hl
       .rename_i hg;rw[hg]at hx;obtain⟨_,_,ad,hv,_⟩:=Dr hx;exact⟨_,hv⟩
       .rename_i hg;rw[hg]at hx;obtain⟨_,_,_,hv,_⟩:=Hp hx;exact⟨_,hv⟩
       .cases hl
     obtain⟨ad,kI⟩:=iQ;rw[kI]at Ze ⊢;simp only[Instr.sureAddr,asAddr,Sem.run_bind,Sem.run_pure,Result.andThen_ok]at Ze ⊢;generalize (loadVar t ad).run P w=r1 at *;cases r1 with
     | ok u w1=>simp only[Result.andThen_ok]at Ze;cases Ze;rfl
     | halt x w1=>simp only[Result.andThen_halt]at Ze;cases Ze
    simp[List.mapM_cons,aB,h3]
  .cases h
def Ql3{P:Program}{L}(hL:Z5 P L){f}{fn:Func}{c}(hf:P.funcs[f]? = some fn)(hb:fn.body=some c){F}{args:List D}{R}(hn:args.length<=fn.ntmps)
  (h:∀(base:Nat) (w:World) (pl:List Pl),base<=w.heap.size->pl.length=F.length->A P base fn.ntmps ⟨w,F,pl⟩ c (AO L fn.results.toList R) ⟨jG args 0,F⟩):QH P f F args R:=by
 intro Z base w pl vs Q1 hZ hO hl hc;refine calls_of_wp hf hb ?_;have UX:Rel Z base fn.ntmps ⟨jG args 0,F⟩ pl { tmps:=vs.toArray++Array.replicate (fn.ntmps - vs.toArray.size) Go.undef,defers:=[] } w:=by
  refine⟨ξ,rfl,λt=>?_,hO⟩;rw[QaW];simp only[Jh,Vs,Dl];by_cases ht:t<args.length
  .have:=hc t ht;have e:(vs.toArray++Array.replicate (fn.ntmps - vs.toArray.size) Go.undef).getD t Go.undef=QZ vs t:=by
    rw[wX,LS ξ];simp[QZ,Q5]
   rw[e];exact this
  .have:nth args t=.undef:=by simp[nth,Q5,Ar (Ql7 ht)]
   rw[this];exact .cl _ _ (.undef _)
 refine wp_mono (h base w pl Q1 hO.len _ trivial pl _ w UX ⟨Below.refl _ _,Tr.refl _ _ _,HF.start (w0:=⟨w,F,pl⟩) hO hZ⟩) λe a' w' hh=>?_;obtain⟨s',Qi,hq,r',xo,hT,_⟩:=hh;have fin:(match DC L s' fn.results.toList with|some (p,ds)=>p/\R (one ds) s'.h|none=>False)->a'.defers=[]/\∃v,(results fn a'.tmps).run P w'=.ok v w' /\
   ∃v1 d h Qi,Ending.returned v=.returned v1/\R d h/\Zi Z base h Qi w'/\QC Z h Qi w' d v1/\Tr F pl w h Qi w'/\Below base w w':=by
  intro hm;split at hm
  .rename_i p ds AP;obtain⟨WR,h1,h2,h3⟩:=lW hL r' _ _ _ AP hm.1;have Ze:(fn.results.mapM (Mz a'.tmps)).run P w'=.ok WR.toArray w':=by
    rw[Array.mapM_eq_mapM_toList];simp only[Sem.run_map,h3,Result.andThen_ok]
   refine⟨r'.defers,?_⟩;have Ju:WR.toArray.size=WR.length:=σ;match ds,WR,h1,h2,Ze,hm with
   | [d],[v],_,h2,Ze,hm=>
    refine⟨v,?_,v,d,s'.h,Qi,rfl,hm.2,r'.o,h2 0 σ,hT,xo⟩;rw[lV];simp only[Sem.run_bind];rw[Ze];simp
   | [],[],_,h2,Ze,hm=>
    refine⟨.tuple #[],?_,_,_,s'.h,Qi,rfl,hm.2,r'.o,.tup [] [] rfl (λi hi=>by simp at hi),hT,xo⟩;rw[lV];simp only[Sem.run_bind];rw[Ze];simp
   | d::d2::ds,v::v2::vs,h1,h2,Ze,hm=>
    refine⟨.tuple (v::v2::vs).toArray,?_,_,_,s'.h,Qi,rfl,hm.2,r'.o,.tup _ _ h1 h2,hT,xo⟩;rw[lV];simp only[Sem.run_bind];rw[Ze];simp
   | [],_::_,h1,_,_,_=>simp at h1
   | [_],[],h1,_,_,_=>simp at h1
   | [_],_::_::_,h1,_,_,_=>simp at h1
   | _::_::_,[],h1,_,_,_=>simp at h1
   | _::_::_,[_],h1,_,_,_=>simp at h1
  .exact hm.elim
 cases e with
 | normal=>exact fin hq
 | ret=>exact fin hq
 | exit id=>exact hq.elim
 | goto l=>exact hq.elim
 | panic ch=>exact hq.elim
 | outgrown=>exact hq.elim
end Go.Fg
namespace Go.Fg
open Go.RowKit (Below)
variable {Z:Nat->Prop}
def D.qI:D->Bool
 | .raw _ | .nil | .imm _ _ _ | .ip _=>true
 | _=>false
def FO{h}{pl}{w}{d:D}{v}(r:QC Z h pl w d v)(hd:d.qI=true):Cl (free Z pl) w d v:=by
 cases r with
 | cl _ _ hc=>exact hc
 | _=>cases hd
def Yc(f:D->Option (Prop × D)):List D->Option (Prop × List D)
 | []=>some (True,[])
 | d::r=>match f d,Yc f r with
  | some (p,c),some (q,cs)=>some (p/\q,c::cs)
  | _,_=>none
def VU(h:List Ob):Nat->D->Option (Prop × D)
 | 0,.raw v=>some (True,.raw v)
 | 0,_=>none
 | n+1,d=>match d with
  | .raw v=>some (True,.raw v)
  | .nil=>some (True,.nil)
  | .imm z n r=>some (True,.imm z n r)
  | .ip c=>some (True,.ip c)
  | .ref l g off len=>match h[l]? with
   | some o=>some (g=o.gen/\off+len<=o.n/\∀i,i<len->(o.row (off+i)).all D.qI=true,.imm o.sz len λi=>o.row (off+i))
   | none=>none
  | .ptr l g i j=>match h[l]? with
   | some o=>match Yc (VU h n) ((o.row i).drop j) with
    | some (p,cs)=>some (g=o.gen/\i<o.n/\j<=o.sz/\p,.ip cs)
    | none=>none
   | none=>none
  | .agg cs=>match Yc (VU h n) cs with
   | some (p,cs')=>some (p,.agg cs')
   | none=>none
  | .clo f nf cs=>match Yc (VU h n) cs with
   | some (p,cs')=>some (p,.clo f nf cs')
   | none=>none
  | _=>none
def PZ{f:D->Option (Prop × D)}{C:D->Value->Prop}{r:D->Value->Prop}(hf:∀d v p c,r d v->f d=some (p,c)->p->C c v):∀(cs:List D) (vs:List Value) (p:Prop) (cs':List D),vs.length=cs.length->(∀i,i<cs.length->r (nth cs i) (QZ vs i)) ->
  Yc f cs=some (p,cs')->p->cs'.length=cs.length/\∀i,i<cs.length->C (nth cs' i) (QZ vs i)
 | [],vs,p,cs',hl,hr,h,hp=>by simp[Yc]at h;obtain⟨_,rfl⟩:=h;exact⟨rfl,λi hi=>by simp at hi⟩
 | d::cs,[],p,cs',hl,hr,h,hp=>by simp at hl
 | d::cs,v::vs,p,cs',hl,hr,h,hp=>by
  simp only[Yc]at h;split at h
  .rename_i p1 c q cs1 h1 h2;simp only[QY,Q9]at h;obtain⟨rfl,rfl⟩:=h;obtain⟨k1,k2⟩:=PZ hf cs vs q cs1 (by simpa using hl) (λi hi=>by have:=hr (i+1) (by simpa using hi);simpa[nth,QZ] using this) h2 hp.2;refine⟨by simp[k1],λi hi=>?_⟩;cases i with
   | zero=>exact hf d v p1 c (hr 0 σ) h1 hp.1
   | succ i=>have:=k2 i (by simpa using hi);simpa[nth,QZ] using this
  .cases h
def aC{N}{base}{h}{pl:List Pl}{w}(R:Zi Z base h pl w)(aD:∀b,free Z pl b->N b)(hN2:∀l b q:Nat,pl[l]? = some (some (b,q))->N b):∀(n:Nat) (d:D) (v:Value) (p:Prop) (c:D),QC Z h pl w d v->VU h n d=some (p,c)->p->Cl N w c v
 | 0,d,v,p,c,r,e,hp=>by
  cases d<;>simp only[VU,reduceCtorEq,QY,Q9]at e;obtain⟨_,rfl⟩:=e;rw[Jn r];exact .raw _
 | n+1,d,v,p,c,r,e,hp=>by
  have top:∀{d:D} {v:Value},Cl (free Z pl) w d v->Cl N w d v:=λh=>h.mono λb hb _=>⟨aD b hb,rfl⟩;cases d with
  | raw u=>simp only[VU,QY,Q9]at e;obtain⟨_,rfl⟩:=e;exact top (FO r rfl)
  | nil=>simp only[VU,QY,Q9]at e;obtain⟨_,rfl⟩:=e;exact top (FO r rfl)
  | imm z k row=>simp only[VU,QY,Q9]at e;obtain⟨_,rfl⟩:=e;exact top (FO r rfl)
  | ip cs=>simp only[VU,QY,Q9]at e;obtain⟨_,rfl⟩:=e;exact top (FO r rfl)
  | undef=>simp[VU]at e
  | tup cs=>simp[VU]at e
  | ref l g off len=>
   simp only[VU]at e;split at e
   .rename_i o ho;simp only[QY,Q9]at e;obtain⟨rfl,rfl⟩:=e;obtain⟨hg,hn,Kj⟩:=hp;obtain⟨a,cap,vs,S⟩:=iS R r (p:=g=o.gen/\off+len<=o.n) (n:=len) (sz:=o.sz) (rows:=λk=>o.row (off+k)) (by simp[PK,ho]) ⟨hg,hn⟩;have BX:∀i j,i<len->j<o.sz->(nth (o.row (off+i)) j).qI=true:=λi j hi hj=>by
     have h1:=Kj i hi;rw[XK]at h1;have h2:j<(o.row (off+i)).length:=by rw[S.len i hi];exact hj
     refine h1 _ ?_;simp only[nth,Q5,QP h2,KR];exact YU h2
    obtain⟨o',p',ad,kJ,hv,Zv,ZS,ZJ,jt,Kz⟩:=Dq r;rw[ho]at Zv;cases Zv;have lY:=S.v;rw[hv]at lY;simp only[Value.slice.injEq,vO]at lY;obtain⟨rfl,rfl⟩:=lY;rw[hv];rcases Kz hg with ⟨h1,h2⟩|⟨b,q,c,el,Wb,kI,hb,hc,hl⟩
    .subst h1;exact .imm _ _ _ _ _ 0 0 (λ_ _=>Go.undef) (λh=>ω) ω (λi hi=>ω) (λi j hi=>ω) (λi j hi=>ω)
    .refine .imm _ _ _ _ _ b (q+off*o.sz) vs (λ_=>kI) hl S.len (λi j hi hj=>⟨hN2 l b q (by rw[ZS,Wb]),?_⟩) (λi j hi hj=>?_)
     .obtain⟨b1,q1,hh,yu⟩:=S.cell i j hi hj;rw[kI]at hh;simp only[QY,Addr.mk.injEq,and_true]at hh;obtain⟨rfl,rfl⟩:=hh;exact yu
     .exact top (FO (S.rel i j hi hj) (BX i j hi hj))
   .cases e
  | mref l g=>simp[VU]at e
  | ptr l g i j=>
   simp only[VU]at e;split at e
   .rename_i o ho;split at e
    .rename_i q cs JF;simp only[QY,Q9]at e;obtain⟨rfl,rfl⟩:=e;obtain⟨hg,hi,hj,hq⟩:=hp;obtain⟨o',p',ad,hv,Zv,ZS,ZJ,jt,Kz⟩:=Dr r;rw[ho]at Zv;cases Zv;obtain⟨b,q0,rfl,rfl⟩:=Kz hg;obtain⟨Q1,xx⟩:=R.at_ l o b q0 ho ZS;obtain⟨c,el,hb,Hs,Kc,ZG⟩:=xx.cells ZJ;have hlen:((o.row i).drop j).length=o.sz - j:=by rw[Un,Kc i hi]
     let vs:List Value:=(List.range (o.sz - j)).map λk=>(c[q0+(i*o.sz+(j+k))]?).getD Go.undef;have hvs:∀k,k<o.sz - j->QZ vs k=(c[q0+(i*o.sz+(j+k))]?).getD Go.undef:=λk hk=>by simp[vs,QZ,Q5,hk]
     obtain⟨k1,k2⟩:=PZ (r:=λd v=>QC Z h pl w d v) (C:=λd v=>Cl N w d v) (λd v p c hr he hp=>aC R aD hN2 n d v p c hr he hp) _ vs q cs (by simp[vs,hlen]) (λk hk=>by
      rw[hlen]at hk;obtain⟨u,hu,hr⟩:=ZG i (j+k) hi ω;rw[Fw,hvs k hk,hu];exact hr) JF hq
     rw[hv];rw[hlen]at k1 k2;refine .ip _ b _ (λk=>QZ vs k) (λk hk=>⟨hN2 l b q0 ZS,?_⟩) (λk hk=>k2 k ω);rw[k1]at hk;obtain⟨u,hu,hr⟩:=ZG i (j+k) hi ω;rw[cell_of_row w b _ c el (0,0) hb,hvs k hk,hu,KR,show q0+(i*o.sz+j)+k=q0+(i*o.sz+(j+k)) by omega,hu]
    .cases e
   .cases e
  | agg cs=>
   simp only[VU]at e;split at e
   .rename_i q cs' JF;simp only[QY,Q9]at e;obtain⟨rfl,rfl⟩:=e;obtain⟨vs,rfl,hl,hr⟩:=Ho r;obtain⟨k1,k2⟩:=PZ (r:=λd v=>QC Z h pl w d v) (C:=λd v=>Cl N w d v) (λd v p c hr he hp=>aC R aD hN2 n d v p c hr he hp) cs vs _ cs' hl hr JF hp;exact .agg _ _ ω (λi hi=>k2 i ω)
   .cases e
  | clo f nf cs=>
   simp only[VU]at e;split at e
   .rename_i q cs' JF;simp only[QY,Q9]at e;obtain⟨rfl,rfl⟩:=e;obtain⟨vs,rfl,hl,hr⟩:=iC r;obtain⟨k1,k2⟩:=PZ (r:=λd v=>QC Z h pl w d v) (C:=λd v=>Cl N w d v) (λd v p c hr he hp=>aC R aD hN2 n d v p c hr he hp) cs vs _ cs' hl hr JF hp;exact .clo _ _ _ _ ω (λi hi=>k2 i ω)
   .cases e
def Ql5{base}{h}{pl}{w}(R:Zi Z base h pl w)(n)(d)(v)(p:Prop)(c)(r:QC Z h pl w d v)(e:VU h n d=some (p,c))(hp:p):Cl (λ_=>True) w c v:=
 aC R (λ_ _=>trivial) (λ_ _ _ _=>trivial) n d v p c r e hp
mutual
def D.flat:D->Bool
 | .raw _ | .nil | .ref _ _ _ _ | .ptr _ _ _ _ | .mref _ _=>true
 | .agg cs=>DD cs
 | .tup cs=>DD cs
 | .clo _ _ cs=>DD cs
 | _=>false
def DD:List D->Bool
 | []=>true
 | d::r=>d.flat&&DD r
end
def FP:∀{cs:List D},DD cs=true->∀i,i<cs.length->(nth cs i).flat=true
 | [],_,i,h=>by simp at h
 | d::r,hf,i,h=>by
  simp only[DD,Zy]at hf;cases i with
  | zero=>exact hf.1
  | succ i=>have:=FP hf.2 i (by simpa using h);simpa[nth] using this
def QC.aE{Z'}{h}{pl}{w}{d:D}{v}(r:QC Z h pl w d v)(hf:d.flat=true):QC Z' h pl w d v:=by
 induction r with
 | cl d v hc=>
  have:∀{d:D} {v:Value},Cl (free Z pl) w d v->d.flat=true->QC Z' h pl w d v:=by
   intro d v hc;induction hc with
   | raw v=>exact λ_=>.cl _ _ (.raw v)
   | undef v=>intro hf;simp[D.flat]at hf
   | nil a=>exact λ_=>.cl _ _ (.nil a)
   | imm=>intro hf;simp[D.flat]at hf
   | ip=>intro hf;simp[D.flat]at hf
   | clo f nf cs vs hl hr ih=>exact λhf=>.clo f nf cs vs hl λi hi=>ih i hi (FP (by simpa[D.flat] using hf) i hi)
   | agg cs vs hl hr ih=>exact λhf=>.agg cs vs hl λi hi=>ih i hi (FP (by simpa[D.flat] using hf) i hi)
   | tup cs vs hl hr ih=>exact λhf=>.tup cs vs hl λi hi=>ih i hi (FP (by simpa[D.flat] using hf) i hi)
  exact this hc hf
 | ref l g off len o p a cap ho hp hk hg hs=>exact .ref l g off len o p a cap ho hp hk hg hs
 | ptr l g i j o p a ho hp hk hg hs=>exact .ptr l g i j o p a ho hp hk hg hs
 | mref l g o p b ho hp hk hg hs=>exact .mref l g o p b ho hp hk hg hs
 | clo f nf cs vs hl hr ih=>exact .clo f nf cs vs hl λi hi=>ih i hi (FP (by simpa[D.flat] using hf) i hi)
 | agg cs vs hl hr ih=>exact .agg cs vs hl λi hi=>ih i hi (FP (by simpa[D.flat] using hf) i hi)
 | tup cs vs hl hr ih=>exact .tup cs vs hl λi hi=>ih i hi (FP (by simpa[D.flat] using hf) i hi)
def Ob.flat(o:Ob):Prop:=∀i,i<o.n->DD (o.row i)=true
def Zi.aE{Z'}{base}{h}{pl}{w}(R:Zi Z base h pl w)(hf:∀o∈h,o.flat):Zi Z' base h pl w where
 len:=R.len
 inj:=R.inj
 VB:=R.VB
 at_:=λl o b q ho hp=>by
  obtain⟨h1,x⟩:=R.at_ l o b q ho hp;exact⟨h1,x.to rfl rfl rfl rfl (λ_ _=>rfl) λi j v hi hj hr=>hr.aE (FP (hf o (Hf ho) i hi) j hj)⟩
def Qm(P:Program)(f:FuncId):Prop:=∀(args:Array Value) (w:World),(callFunc f args).run P w=.ok (.enter f args) w
def Jq:D->Option (FuncId × Nat × List D)
 | .raw (.func (.func f) ⟨[]⟩ ⟨[]⟩)=>some (f,0,[])
 | .clo f nf cs=>some (f,nf,cs)
 | _=>none
section
variable {P:Program}{base nt:Nat}{w0:Start}{Q:Exit->St->Prop}
def P3{h}{pl}{w}{d}{v}{f}{nf}{Qs}(r:QC Z h pl w d v)(e:Jq d=some (f,nf,Qs)):
  ∃vs:List Value,v=.func (.func f) (vs.take nf).toArray (vs.drop nf).toArray/\vs.length=Qs.length/\∀i,i<Qs.length->QC Z h pl w (nth Qs i) (QZ vs i):=by
 unfold Jq at e;split at e
 .simp only[QY,Q9]at e;obtain⟨rfl,rfl,rfl⟩:=e;exact⟨[],Jn r,rfl,λi hi=>by simp at hi⟩
 .simp only[QY,Q9]at e;obtain⟨rfl,rfl,rfl⟩:=e;exact iC r
 .cases e
def ZT{α:Type}(nf:Nat)(Qs args:List α):List α:=Qs.take nf++(args++Qs.drop nf)
def P4{r:D->Value->Prop}{nf:Nat}{Qs args:List D}{vs us:List Value}(h1:vs.length=Qs.length)(h2:∀i,i<Qs.length->r (nth Qs i) (QZ vs i))(k1:us.length=args.length)(k2:∀i,i<args.length->r (nth args i) (QZ us i)):
  (ZT nf vs us).length=(ZT nf Qs args).length/\∀i,i<(ZT nf Qs args).length->r (nth (ZT nf Qs args) i) (QZ (ZT nf vs us) i):=by
 refine⟨by simp[ZT,h1,k1],λi hi=>?_⟩;have hl:(vs.take nf).length=(Qs.take nf).length:=by simp[h1]
 simp only[ZT,nth,QZ,Q5];by_cases c1:i<(Qs.take nf).length
 .rw[JC (l₁:=Qs.take nf) c1,JC (l₁:=vs.take nf) ω];have c2:i<nf/\i<Qs.length:=by simp at c1;omega
  rw[Xw,Xw,Qd c2.1,Qd c2.1];exact h2 i c2.2
 .rw[Kb (l₁:=Qs.take nf) ω,Kb (l₁:=vs.take nf) ω,hl];by_cases c2:i - (Qs.take nf).length<args.length
  .rw[JC (l₁:=args) c2,JC (l₁:=us) ω];exact k2 _ c2
  .rw[Kb (l₁:=args) ω,Kb (l₁:=us) ω,k1];rw[Fj,Fj];refine h2 _ ?_;simp only[ZT,ZW,Qgv,Un]at hi c1 c2 ⊢;omega
def P5{o:Oper}{a:Act}{x}{args}{Zl:Array TypeId}{f}{nf:Nat}{vs:List Value}(hf:Qm P f)(ho:o.op=.call ⟨.value x,args,Zl⟩)(hx:a.eval x=.func (.func f) (vs.take nf).toArray (vs.drop nf).toArray)(w):
  (execOp a.eval o).run P w=.ok (.enter f (ZT nf vs (args.toList.map a.eval)).toArray) w:=by
 have e:(ZT nf vs (args.toList.map a.eval)).toArray=(vs.take nf).toArray++args.map a.eval++(vs.drop nf).toArray:=by apply Array.ext';simp[ZT]
 rw[e];simp[execOp,ho,resolve,hx,Deferred.ofValue,invoke,hf _ w]
def QaY(Q1:base<=w0.w.heap.size){o:Oper}{s}{x}{args}{Zl:Array TypeId}{f}{nf}{Qs}(hf:Qm P f)(ho:o.op=.call ⟨.value x,args,Zl⟩)
  (hx:Jq (Qo s.fr x)=some (f,nf,Qs)) {n:Nat} {p:Prop} {cs:List D} (JF:Yc (VU s.h n) (ZT nf Qs (args.toList.map (Qo s.fr)))=some (p,cs)) (hp:p) {R:D->List Ob->Prop} (hF:QW P f cs R)
  (HG:∀d h,R d h->d.flat=true/\∀o∈h,o.flat) (ht:Zk nt o.dst=true) (pl:List Pl) (a:Act) (w:World) (r:Rel Z base nt s pl a w) (b:KX Z base w0 s.h pl w) (Q':Exit->Act->World->Prop) :
  o.wp P a w (λa' w'=>Ext w w'/\∃d h Qi,R d h/\Rel Z base nt ⟨Za s.fr o.dst (d.shift s.h.length),s.h++h.map (Ob.shift s.h.length)⟩ Qi a' w'/\KX Z base w0 (s.h++h.map (Ob.shift s.h.length)) Qi w'/\Tr s.h pl w (s.h++h.map (Ob.shift s.h.length)) Qi w'/\∃v,a'=a.put o.dst v) Q':=by
 obtain⟨vs,hv,kR,DE⟩:=P3 (r.eval x) hx;have qJ:base<=w.heap.size:=Ki Q1 b.1.size;obtain⟨q1,q2⟩:=P4 (r:=λd v=>QC Z s.h pl w d v) (nf:=nf) kR DE (us:=args.toList.map a.eval) (args:=args.toList.map (Qo s.fr)) σ (λi hi=>by
  have Z9:i<args.toList.length:=by simpa using hi
  simp only[nth,QZ,Q5,Ks];rw[QP Z9];exact r.eval _)
 obtain⟨k1,k2⟩:=PZ (r:=λd v=>QC Z s.h pl w d v) (C:=λd v=>Cl (λ_=>True) w d v) (λd v p c hr he hp=>Ql5 r.o n d v p c hr he hp) _ (ZT nf vs (args.toList.map a.eval)) p cs q1 q2 JF hp;have hc:=hF (λ_=>True) w.heap.size w [] (ZT nf vs (args.toList.map a.eval)) (QB _) (λ_ _=>trivial) ⟨rfl,λl l' b q q' e=>by simp at e,λl o e=>by simp at e,λl o b q e=>by simp at e⟩ ω (λi hi=>.cl _ _ ((k2 i ω).mono λb _ _=>⟨⟨trivial,λl q e=>by simp at e⟩,rfl⟩));unfold Oper.wp;rw[P5 hf ho hv w];simp only[Oper.upon_enter];refine hc.mono λe w' he=>?_;obtain⟨v,d,h',Qi,rfl,hR,hO,hV,hTT,hB⟩:=he;obtain⟨f1,f2⟩:=HG d h' hR;have hO':=hO.aE (Z':=λ_=>False) f2;have r7:=hV.aE (Z':=λ_=>False) f1;have Yy:∀b,free (λ_=>False) Qi b->free Z (pl++Qi) b:=λb hb=>hb.1.elim;have JY:∀(l b q:Nat),Qi[l]? = some (some (b,q))->w.heap.size<=b:=λl b q e=>by
  rcases w9 b w.heap.size with Qb|Yb
  .exact absurd e ((hTT.J3 b (λl q e=>by simp at e) Qb).1 l q)
  .exact Yb
 have T:=Tr.join (h':=h'.map (Ob.shift s.h.length)) r.o hB JY;have HH:=Zi.join r.o qJ hB hO' Yy JY;refine⟨λi hi=>hB.block i hi,d,h',pl++Qi,hR,?_,b.step T (hB.mono qJ),T,v,rfl⟩;cases hd:o.dst with
 | none=>exact r.ym T HH v
 | some t=>rw[hd]at ht;exact r.to T HH (jE ht) (r7.join r.o.len Yy)
def Ql9(Q1:base<=w0.w.heap.size){o:Oper}{rest}{s}{x}{args}{Zl:Array TypeId}{f}{nf}{Qs}(hf:Qm P f)(ho:o.op=.call ⟨.value x,args,Zl⟩)
  (hx:Jq (Qo s.fr x)=some (f,nf,Qs)) {n:Nat} {p:Prop} {cs:List D} (JF:Yc (VU s.h n) (ZT nf Qs (args.toList.map (Qo s.fr)))=some (p,cs)) (hp:p) {R:D->List Ob->Prop} (hF:QW P f cs R)
  (HG:∀d h,R d h->d.flat=true/\∀o∈h,o.flat) (ht:Zk nt o.dst=true) (hk:∀d h,R d h->AG P base nt w0 rest Q ⟨Za s.fr o.dst (d.shift s.h.length),s.h++h.map (Ob.shift s.h.length)⟩):AG P base nt w0 ((o,none)::rest) Q s:=by
 intro Z z pl a w r b;simp only[Yx,W3,Vs];exact Oper.wp_mono (λa' w' ⟨_,d,h,Qi,hR,r',b',_⟩=>hk d h hR Z z Qi a' w' r' b') (QaY Q1 hf ho hx JF hp hF HG ht pl a w r b _)
def B5(m:Nat)(h:List Ob)(pl:List Pl)(h':List Ob)(Qi:List Pl):Prop:=
 (∀b,W0 pl b->W0 Qi b)/\∀(l:Nat) (o:Ob) (p:Pl),l<m->h[l]? = some o->pl[l]? = some p->∃o',h'[l]? = some o'/\Qi[l]? = some p/\o'.gen=o.gen/\o'.sz=o.sz/\o'.kd.ty=o.kd.ty
def B5.refl(m)(h)(pl):B5 m h pl h pl:=⟨λ_ h=>h,λ_ o p _ ho hp=>⟨o,ho,hp,rfl,rfl,rfl⟩⟩
def B5.trans{m}{h h' Yt}{pl Qi Hm}(a:B5 m h pl h' Qi)(b:B5 m h' Qi Yt Hm):B5 m h pl Yt Hm:=
 ⟨λx hx=>b.1 x (a.1 x hx),λl o p hl ho hp=>by
  obtain⟨o1,h1,h2,h3,h4,h5⟩:=a.2 l o p hl ho hp;obtain⟨o2,k1,k2,k3,k4,k5⟩:=b.2 l o1 p hl h1 h2;exact⟨o2,k1,k2,by rw[k3,h3],by rw[k4,h4],by rw[k5,h5]⟩⟩
def Tr.keep{F h h':List Ob}{pl0 pl Qi}{w0 w}{m}(T:Tr F pl0 w0 h pl w)(hm:F.length<=m)(K:B5 m h pl h' Qi):Tr F pl0 w0 h' Qi w where
 J3:=λb hb Qb=>⟨K.1 b (T.J3 b hb Qb).1,(T.J3 b hb Qb).2⟩
 obj:=λl o p ho hp=>by
  obtain⟨o1,p1,h1,h2,h3,h4,h5⟩:=T.obj l o p ho hp;obtain⟨o2,k1,k2,k3,k4,k5⟩:=K.2 l o1 p1 (kG (KD ho) hm) h1 h2;exact⟨o2,p1,k1,k2,ω,by rw[k5,h4],λe=>by obtain⟨x,y⟩:=h5 ω;exact⟨by rw[k4,x],y⟩⟩
 shape:=λl o UA b q ho Mi hg hp c el hb=>by
  obtain⟨o1,p1,h1,h2,h3,h4,h5⟩:=T.obj l o _ ho hp;obtain⟨o2,k1,k2,k3,k4,k5⟩:=K.2 l o1 p1 (kG (KD ho) hm) h1 h2;rw[Mi]at k1;cases k1;exact T.shape l o o1 b q ho h1 ω hp c el hb
def Wk(m:Nat)(s s':St):Prop:=∀(Z:Nat->Prop) (base nt:Nat) pl a w,Rel Z base nt s pl a w->∃Qi,Rel Z base nt s' Qi a w/\B5 m s.h pl s'.h Qi
def Wk.refl{m}(s):Wk m s s:=λ_ _ _ pl _ _ r=>⟨pl,r,.refl _ _ _⟩
def Wk.trans{m}{s s' HI}(h:Wk m s s')(k:Wk m s' HI):Wk m s HI:=λZ b n pl a w r=>
 let ⟨Qi,r',K⟩:=h Z b n pl a w r;let ⟨Hm,r'',K'⟩:=k Z b n Qi a w r'
 ⟨Hm,r'',K.trans K'⟩
def KX.keep{h h'}{pl Qi}{w}(b:KX Z base w0 h pl w)(K:B5 w0.F.length h pl h' Qi):KX Z base w0 h' Qi w:=⟨b.1,b.2.1.keep (QB _) K,b.2.2.new,λl b' q e h0=>by
 by_cases ha:W0 pl b'
 .exact absurd e (K.1 b' ha l q)
 .obtain⟨l1,h1⟩:=LW.1 ha;obtain⟨q1,h2⟩:=LW.1 h1;exact b.2.2.own l1 b' q1 (Classical.not_not.1 h2) h0⟩
def Qz(w0:Start)(s s':St):Prop:=∀(Z:Nat->Prop),PV w0 Z->∀(base nt:Nat) pl a w,Rel Z base nt s pl a w->KX Z base w0 s.h pl w->∃Qi,Rel Z base nt s' Qi a w/\KX Z base w0 s'.h Qi w
def Wk.up{s s'}(h:Wk w0.F.length s s'):Qz w0 s s':=λZ _ base nt pl a w r b=>let ⟨Qi,r',K⟩:=h Z base nt pl a w r;⟨Qi,r',b.keep K⟩
def Qz.refl(s):Qz w0 s s:=λ_ _ _ _ pl _ _ r b=>⟨pl,r,b⟩
def Qz.trans{s s' HI}(h:Qz w0 s s')(k:Qz w0 s' HI):Qz w0 s HI:=λZ z bs n pl a w r b=>
 let ⟨Qi,r',b'⟩:=h Z z bs n pl a w r b
 k Z z bs n Qi a w r' b'
def A.Yd{c}{s s'}(h:Qz w0 s s')(k:A P base nt w0 c Q s'):A P base nt w0 c Q s:=λZ z pl a w r b=>let ⟨Qi,r',b'⟩:=h Z z base nt pl a w r b;k Z z Qi a w r' b'
def AG.Yd{l}{s s'}(h:Qz w0 s s')(k:AG P base nt w0 l Q s'):AG P base nt w0 l Q s:=λZ z pl a w r b=>let ⟨Qi,r',b'⟩:=h Z z base nt pl a w r b;k Z z Qi a w r' b'
def DF{c}{k}{s s'}(h:Qz w0 s s')(hk:Qv P base nt w0 Q (.code c::k) .normal s'):Qv P base nt w0 Q (.code c::k) .normal s:=by
 simp only[Qv]at hk ⊢;exact hk.Yd h
def FQ(fr:List (Nat × D)):List (Nat × D)->Prop
 | []=>True
 | (t,d)::r=>get fr t=d/\FQ fr r
def Qa0{fr}:∀{r:List (Nat × D)},FQ fr r->∀t d,(t,d)∈r->get fr t=d
 | [],_,_,_,h=>by cases h
 | (u,e)::r,h,t,d,hm=>by
  rcases QD.1 hm with h1|h1
  .cases h1;exact h.1
  .exact Qa0 h.2 t d h1
def Qa1(fr)(u):get fr u=.undef\/(u,get fr u)∈fr:=by
 induction fr with
 | nil=>exact .inl rfl
 | cons x r ih=>
  obtain⟨t,d⟩:=x;simp only[get];by_cases h:t=u
  .subst h;simp
  .have:Nat.beq t u=false:=by rw[<- Ys,Wa];exact h
   rw[this];rcases ih with ih|ih
   .exact .inl (by simpa using ih)
   .exact .inr (by simp[ih])
def Wk.frame{m}{fr fr'}{h}(hf:FQ fr fr'):Wk m ⟨fr,h⟩ ⟨fr',h⟩:=λZ base nt pl a w r=>
 ⟨pl,⟨r.nt,r.defers,λt=>by
  rcases Qa1 fr' t with h1|h1
  .show QC Z h pl w (get fr' t) _;rw[h1];exact .cl _ _ (.undef _)
  .have:=Qa0 hf _ _ h1;show QC Z h pl w (get fr' t) _;rw[<- this];exact r.fr t,r.o⟩,.refl _ _ _⟩
def Kd.P6(k k':Kd):Prop:=k.ty=k'.ty/\k.ro=k'.ro
def MA(o o':Ob):Prop:=o'.gen=o.gen/\o'.sz=o.sz/\o'.n=o.n/\o'.kd.P6 o.kd/\∀i,i<o.n->o'.row i=o.row i
def yz:List Ob->List Ob->Prop
 | [],[]=>True
 | o::r,o'::r'=>MA o o'/\yz r r'
 | _,_=>False
def aF:∀{h h':List Ob},yz h h'->h'.length=h.length/\∀(l:Nat) (o':Ob),h'[l]? = some o'->∃o,h[l]? = some o/\MA o o'
 | [],[],_=>⟨rfl,λl o' e=>by simp at e⟩
 | [],_::_,h=>h.elim
 | _::_,[],h=>h.elim
 | o::r,o'::r',h=>by
  obtain⟨h1,h2⟩:=aF h.2;refine⟨by simp[h1],λl u e=>?_⟩;cases l with
  | zero=>simp at e;subst e;exact⟨o,rfl,h.1⟩
  | succ l=>simp at e;obtain⟨v,h3,h4⟩:=h2 l u e;exact⟨v,by simpa using h3,h4⟩
def QC.FR{h h'}{pl}{w}(hl:yz h h'){d}{v}(r:QC Z h pl w d v):QC Z h' pl w d v:=by
 obtain⟨h1,h2⟩:=aF hl;have key:∀(l:Nat) (o:Ob),h[l]? = some o->∃o',h'[l]? = some o'/\MA o o':=λl o e=>by
  have:l<h'.length:=by rw[h1];exact KD e
  obtain⟨o2,h3,h4⟩:=h2 l _ (QP this);rw[e]at h3;cases h3;exact⟨_,QP this,h4⟩
 induction r with
 | cl d v hc=>exact .cl d v hc
 | ref l g off len o p a cap ho hp hk hg hs=>
  obtain⟨o',h3,h4⟩:=key l o ho;exact .ref l g off len o' p a cap h3 hp (by rw[h4.2.2.2.1.1];exact hk) (by rw[h4.1];exact hg) (λe=>by rw[h4.2.1];exact hs (by rw[e,h4.1]))
 | ptr l g i j o p a ho hp hk hg hs=>
  obtain⟨o',h3,h4⟩:=key l o ho;exact .ptr l g i j o' p a h3 hp (by rw[h4.2.2.2.1.1];exact hk) (by rw[h4.1];exact hg) (λe=>by rw[h4.2.1];exact hs (by rw[e,h4.1]))
 | mref l g o p b ho hp hk hg hs=>
  obtain⟨o',h3,h4⟩:=key l o ho;exact .mref l g o' p b h3 hp (by rw[h4.2.2.2.1.1];exact hk) (by rw[h4.1];exact hg) (λe=>hs (by rw[e,h4.1]))
 | clo f nf cs vs hl hr ih=>exact .clo f nf cs vs hl ih
 | agg cs vs hl hr ih=>exact .agg cs vs hl ih
 | tup cs vs hl hr ih=>exact .tup cs vs hl ih
def Wk.FR{m}{fr}{h h'}(hl:yz h h'):Wk m ⟨fr,h⟩ ⟨fr,h'⟩:=λZ base nt pl a w r=>by
 obtain⟨h1,h2⟩:=aF hl;refine⟨pl,⟨r.nt,r.defers,λt=>(r.fr t).FR hl,⟨by rw[h1];exact r.o.len,r.o.inj,λl o' ho hp=>?_,λl o' b q ho hp=>?_⟩⟩,λ_ h=>h,λl o p _ ho hp=>?_⟩
 .obtain⟨o,h3,h4⟩:=h2 l o' ho;rw[h4.2.2.1];exact r.o.VB l o h3 hp
 .obtain⟨o,h3,h4,h5,h6,h8,h7⟩:=h2 l o' ho;obtain⟨g1,x⟩:=r.o.at_ l o b q h3 hp;exact⟨λhr=>g1 (by rw[<- h8.2,hr]),x.to h8.1 h5 h6 rfl (λi hi=>by rw[h7 i hi]) λi j v hi _ hr=>by rw[h7 i hi];exact hr.FR hl⟩
 .have Qb:l<h'.length:=by rw[h1];exact KD ho
  obtain⟨o2,h3,h4⟩:=h2 l _ (QP Qb);have ho:h[l]? = some o:=ho;rw[ho]at h3;cases h3;exact⟨_,QP Qb,hp,h4.1,h4.2.1,h4.2.2.2.1.1⟩
mutual
def D.upto(k:Nat):D->Bool
 | .ref l _ _ _=>Nat.blt l k
 | .ptr l _ _ _=>Nat.blt l k
 | .mref l _=>Nat.blt l k
 | .clo _ _ cs=>AQ k cs
 | .agg cs=>AQ k cs
 | .tup cs=>AQ k cs
 | _=>true
def AQ(k:Nat):List D->Bool
 | []=>true
 | d::r=>d.upto k&&AQ k r
end
def MB{k}:∀{cs:List D},AQ k cs=true->∀i,i<cs.length->(nth cs i).upto k=true
 | [],_,i,h=>by simp at h
 | d::r,hf,i,h=>by
  simp only[AQ,Zy]at hf;cases i with
  | zero=>exact hf.1
  | succ i=>have:=MB hf.2 i (by simpa using h);simpa[nth] using this
def QC.take{h:List Ob}{pl:List Pl}{w}{k}{d:D}{v}(r:QC Z h pl w d v)(hk:d.upto k=true):QC Z (h.take k) (pl.take k) w d v:=by
 have Yy:∀b,free Z pl b->free Z (pl.take k) b:=λb hb=>⟨hb.1,λl q e=>by
  rw[Xw]at e;split at e
  .exact hb.2 l q e
  .cases e⟩
 induction r with
 | cl d v hc=>exact .cl d v (hc.mono λb hb _=>⟨Yy b hb,rfl⟩)
 | ref l g off len o p a cap ho hp hm hg hs=>
  have:l<k:=by simpa[D.upto,vL] using hk
  exact .ref l g off len o p a cap (by rw[Xw,Qd this];exact ho) (by rw[Xw,Qd this];exact hp) hm hg hs
 | ptr l g i j o p a ho hp hm hg hs=>
  have:l<k:=by simpa[D.upto,vL] using hk
  exact .ptr l g i j o p a (by rw[Xw,Qd this];exact ho) (by rw[Xw,Qd this];exact hp) hm hg hs
 | mref l g o p b ho hp hm hg hs=>
  have:l<k:=by simpa[D.upto,vL] using hk
  exact .mref l g o p b (by rw[Xw,Qd this];exact ho) (by rw[Xw,Qd this];exact hp) hm hg hs
 | clo f nf cs vs hl hr ih=>exact .clo f nf cs vs hl λi hi=>ih i hi (MB (by simpa[D.upto] using hk) i hi)
 | agg cs vs hl hr ih=>exact .agg cs vs hl λi hi=>ih i hi (MB (by simpa[D.upto] using hk) i hi)
 | tup cs vs hl hr ih=>exact .tup cs vs hl λi hi=>ih i hi (MB (by simpa[D.upto] using hk) i hi)
def FT(k:Nat):List (Nat × D)->Bool
 | []=>true
 | (_,d)::r=>d.upto k&&FT k r
def Qa2{k}:∀{fr:List (Nat × D)},FT k fr=true->∀t,(get fr t).upto k=true
 | [],_,t=>rfl
 | (u,d)::r,h,t=>by
  simp only[FT,Zy]at h;simp only[get];cases Nat.beq u t
  .exact Qa2 h.2 t
  .exact h.1
def AR(k:Nat):List Ob->Prop
 | []=>True
 | o::r=>(∀i,i<o.n->AQ k (o.row i)=true)/\AR k r
def lZ{k}:∀{h:List Ob},AR k h->∀(l:Nat) (o:Ob),h[l]? = some o->∀i,i<o.n->AQ k (o.row i)=true
 | [],_,l,o,e=>by simp at e
 | o::r,h,l,u,e=>by
  cases l with
  | zero=>simp at e;subst e;exact h.1
  | succ l=>simp at e;exact lZ h.2 l u e
def Wk.drop{m}(k)(hm:m<=k){fr}{h:List Ob}(h1:FT k fr=true)(h2:AR k (h.take k)):Wk m ⟨fr,h⟩ ⟨fr,h.take k⟩:=λZ base nt pl a w r=>by
 have Zh:∀(l:Nat) (p:Pl),(pl.take k)[l]? = some p->pl[l]? = some p:=λl p e=>by
  rw[Xw]at e;split at e
  .exact e
  .cases e
 have hh:∀(l:Nat) (o:Ob),(h.take k)[l]? = some o->h[l]? = some o:=λl o e=>by
  rw[Xw]at e;split at e
  .exact e
  .cases e
 refine⟨pl.take k,⟨r.nt,r.defers,λt=>(r.fr t).take (Qa2 h1 t),⟨by simp[r.o.len],λl l' b q q' e1 e2=>r.o.inj l l' b q q' (Zh _ _ e1) (Zh _ _ e2),λl o ho hp=>r.o.VB l o (hh _ _ ho) (Zh _ _ hp),λl o b q ho hp=>?_⟩⟩,
  λb hb l q e=>hb l q (Zh _ _ e),λl o p hl ho hp=>⟨o,by show (h.take k)[l]? = _;rw[Xw,Qd ω];exact ho,by rw[Xw,Qd ω];exact hp,rfl,rfl,rfl⟩⟩
 obtain⟨g1,x⟩:=r.o.at_ l o b q (hh _ _ ho) (Zh _ _ hp);exact⟨g1,x.to rfl rfl rfl rfl (λ_ _=>rfl) λi j v hi hj hr=>hr.take (MB (lZ h2 l o ho i hi) j hj)⟩
def Wk.BS{m}{fr}{h:List Ob}(t sz)(row)(ht:get fr t=.nil):Wk m ⟨fr,h⟩ ⟨put fr t (.ref h.length 0 0 0),h++[⟨.arr,0,sz,0,row⟩]⟩:=λZ base nt pl a w r=>by
 have T:Tr h pl w (h++[⟨.arr,0,sz,0,row⟩]) (pl++[none]) w:=Tr.push r.o (λ_ _=>rfl) _ _ (by intro b q e;cases e);refine⟨pl++[none],⟨r.nt,r.defers,λu=>?_,r.o.BS _ rfl⟩,λb hb=>PC hb (λq e=>by cases e),λl o p _ ho hp=>⟨o,Aw ho,Aw hp,rfl,rfl,rfl⟩⟩;show QC Z _ _ w (get (put fr t (.ref h.length 0 0 0)) u) _;rw[Fs];by_cases hu:u=t
 .subst hu;rw[Qd rfl];have:=r.fr u;have this:QC Z h pl w (get fr u) (a.tmps.getD u Go.undef):=this;rw[ht]at this;obtain⟨ad,hv⟩:=Dp this;rw[hv];have Zh:pl.length=h.length:=r.o.len;exact .ref _ _ _ _ ⟨.arr,0,sz,0,row⟩ none ad 0 σ (by rw[<- Zh];simp) rfl (QB _) (λ_=>.inl ⟨rfl,rfl⟩)
 .rw[Qc hu];exact(r.fr u).tr T
def aG(P:Program)(base nt:Nat)(w0:Start)(Q:Exit->St->Prop)(k:List Item)(I:Nat->St->Prop)(m:Nat):Exit->St->Prop
 | .normal,s=>∃m' s',m'<m/\Qz w0 s s'/\I m' s'
 | e,s=>Qv P base nt w0 Q k e s
def Qmb{p:Nat->Prop}:∀n,p n->∃m,p m/\∀k,p k->m<=k:=by
 intro n;induction n using Nat.strongRecOn with
 | _ n ih=>
  intro hn;by_cases h:∃k,k<n/\p k
  .obtain⟨k,hk,hp⟩:=h;exact ih k hk hp
  .exact⟨n,hn,λk hk=>Ql7 λQb=>h ⟨k,Qb,hk⟩⟩
def aH{p:Nat->Prop}(h:∃n,p n):∃m,p m/\∀k,p k->m<=k:=let ⟨n,hn⟩:=h;Qmb n hn
open Classical in
def HJ{c}{k}{s s0}(I)(m0)(hw:Qz w0 s s0)(h0:I m0 s0)(round:∀m s,I m s->Qv P base nt w0 (aG P base nt w0 Q k I m) [.code c] .normal s):Qv P base nt w0 Q (.code (.loop c)::k) .normal s:=by
 simp only[Qv];refine A.Yd hw ?_;intro Z z pl a w r b;let J:Nat->Act->World->Prop:=λm a w=>∃s pl,I m s/\Rel Z base nt s pl a w/\KX Z base w0 s.h pl w;let μ:Act->World->Nat:=λa w=>if h:∃m,J m a w then Classical.choose (aH h) else 0;refine wp_loop (λa w=>∃m,J m a w) μ ⟨m0,s0,pl,h0,r,b⟩ λa w hJ=>?_;have hm:=(Classical.choose_spec (aH hJ)).1;have hμ:μ a w=Classical.choose (aH hJ):=by simp only[μ];rw[dif_pos hJ]
 obtain⟨s1,pl1,hI,r1,b1⟩:=hm;have:=round _ s1 hI;simp only[Qv]at this;refine wp_mono (this Z z pl1 a w r1 b1) λe a' w' hh=>?_;obtain⟨s2,MC,hq,r2,b2⟩:=hh;cases e with
 | normal=>
  obtain⟨m',s3,Qb,aI,hI3⟩:=hq;obtain⟨pl3,r3,b3⟩:=aI Z z base nt MC a' w' r2 b2;have aJ:J m' a' w':=⟨s3,pl3,hI3,r3,b3⟩;refine⟨⟨m',aJ⟩,?_⟩;rw[hμ];have:μ a' w'<=m':=by simp only[μ];rw[dif_pos ⟨m',aJ⟩];exact(Classical.choose_spec (aH (p:=λm=>J m a' w') ⟨m',aJ⟩)).2 m' aJ
  omega
 | exit id=>exact⟨s2,MC,hq,r2,b2⟩
 | goto l=>exact⟨s2,MC,hq,r2,b2⟩
 | ret=>exact⟨s2,MC,hq,r2,b2⟩
 | panic ch=>exact⟨s2,MC,hq,r2,b2⟩
 | outgrown=>exact⟨s2,MC,hq,r2,b2⟩
end
end Go.Fg
namespace Go.Fg
def Qmf{P}{base nt}{w0}{Q}{c}{s}(h:Qv P base nt w0 Q [.code c] .normal s):A P base nt w0 c Q s:=by
 simp only[Qv]at h;exact h.mono λe s' he=>by cases e<;>exact he
def Qa3{P:Program}{X}(hX:qH P X){f}{fn:Func}{c}(n)(hf:P.funcs[f]? = some fn)(hb:fn.body=some c){F}{args:List D}{R}{nt}(qb:fn.ntmps=nt)(hn:args.length<=nt)
  (h:∀(base:Nat) (w:World) (pl:List Pl),base<=w.heap.size->pl.length=F.length->(exec X nt n [.code c] ⟨jG args 0,F⟩).holds P base nt ⟨w,F,pl⟩ (AO X.L fn.results.toList R)):QH P f F args R:=
 Ql3 hX.L hf hb (by rw[qb];exact hn) λbase w pl Q1 hlen=>Qmf (by rw[qb];exact jF hX Q1 n _ _ (h base w pl Q1 hlen))
end Go.Fg
namespace Go.Fg
open Go.RowKit (Below)
variable {Z:Nat->Prop}
inductive AS (ops:Array Oper) (Zm:Array Bool) (i:Nat):Nat->Prop
 | P7 (j:Nat) (oj:Oper) (e:Edge) (hj:ops[j]? = some oj) (he:e∈oj.after) (hb:Region.binds .any e=true) (h:e.on=i):AS ops Zm i j
 | step (j:Nat) (oj:Oper) (e:Edge) (hj:ops[j]? = some oj) (he:e∈oj.after) (hb:Region.binds .any e=true) (hu:Zm.getD e.on true=false) (h:AS ops Zm i e.on):AS ops Zm i j
def both{Zm:Array Bool}{i}(h:Zm.getD i true=false):Zm.getD i false=false:=by
 rcases w9 i Zm.size with h'|h'
 .simp[h']at h ⊢;exact h
 .simp[Array.getElem?_eq_none h']at h
def AS.Qa4{ops}{Zm:Array Bool}{i j}(h:AS ops Zm i j)(hi:Zm.getD i true=false):j ∉ Region.ready .any ops Zm:=by
 intro hr;obtain⟨_,oj',KM,Kj⟩:=mem_ready.1 hr;cases h with
 | P7 _ oj e hj he hb h=>
  rw[hj]at KM;cases KM;have:=Kj e he hb;rw[h,both hi]at this;cases this
 | step _ oj e hj he hb hu h=>
  rw[hj]at KM;cases KM;have:=Kj e he hb;rw[both hu]at this;cases this
def AS.set{ops}{Zm:Array Bool}{i j k}(h:AS ops Zm i j)(hi:Zm.getD i true=false)(hk:k∈Region.ready .any ops Zm):AS ops (Zm.setIfInBounds k true) i j:=by
 induction h with
 | P7 j oj e hj he hb h=>exact .P7 j oj e hj he hb h
 | step j oj e hj he hb hu h ih=>
  refine .step j oj e hj he hb ?_ ih;have:k≠e.on:=λhek=>by subst hek;exact h.Qa4 hi hk
  rw[getD_set_ne true this];exact hu
def yA(P:Program)(ops:Array Oper)(N:Act->World->Prop)(cm:Nat->World->World->Prop):Nat->Array Bool->Act->World->Prop
 | 0,Zm,a,w=>Region.ready .any ops Zm=[]/\N a w
 | n+1,Zm,a,w=>(Region.ready .any ops Zm=[]->N a w) /\
  ∀i∈Region.ready .any ops Zm,wpOp P ops (λ_ _ _=>False) i (λa' w'=>cm i w w'/\yA P ops N cm n (Zm.setIfInBounds i true) a' w') a w
def Qmh{P}{o:Oper}{a}{w}{K}{Q}(h:o.wp P a w K (λ_ _ _=>False)):o.wp P a w K Q:=by
 unfold Oper.wp at *;generalize (execOp a.eval o).run P w=r at *;cases r with
 | ok n w'=>
  cases n<;>simp only[Oper.upon]at h ⊢<;>first|exact h|skip
  .exact Calls.mono h λe Hn he=>by cases e<;>first|exact he|exact he.elim|exact(let ⟨_,_,h⟩:=he;h.elim)
 | halt x w'=>cases x<;>simp only[Oper.upon]at h ⊢<;>exact h.elim
def aK{P}{ops}{N}{cm}{Q}(hQ:∀a w,N a w->Q .normal a w):∀(n:Nat) (Zm:Array Bool) (a:Act) (w:World),yA P ops N cm n Zm a w->wpAny P .any ops Q n Zm a w
 | 0,_,_,_,h=>⟨h.1,hQ _ _ h.2⟩
 | n+1,Zm,a,w,h=>⟨λe=>hQ _ _ (h.1 e),λi hi=>by
  have:=h.2 i hi;unfold wpOp at this ⊢;split
  .rename_i ho;simp only[ho]at this;exact aK hQ n _ _ _ this.2
  .rename_i o ho;simp only[ho]at this;split
   .rename_i hw;simp only[hw,Vs]at this;rcases this with h1|⟨_,_,_,h2⟩
    .exact .inl (Qmh (Oper.wp_mono (λa' w' h'=>aK hQ n _ _ _ h'.2) h1))
    .exact h2.elim
   .rename_i hw;simp only[hw]at this;exact aK hQ n _ _ _ this.2⟩
def still(L:Z8)(o:Oper):Bool:=match o.op with
 | .extract ..=>true
 | .move _=>true
 | .nilCheck _=>true
 | .fieldAddr t _ f=>match Mj L t f with
  | some (_,y)=>!Nat.beq y.size 0
  | none=>false
 | _=>false
def Qmi{P}{L}(hL:Z5 P L){o:Oper}(hs:still L o=true){ρ}{w}{v}(h:(execOp ρ o).run P w=.ok (.value v) w)(w'):(execOp ρ o).run P w'=.ok (.value v) w':=by
 unfold still at hs;split at hs
 .rename_i x i ho;simp only[execOp,ho,Instr.extract]at h ⊢;split at h<;>first|skip|(simp at h)
  all_goals (first|(split at h<;>first|(simp at h)|skip)|skip)
  all_goals (first|(simp at h ⊢;exact h)|simp_all)
 .rename_i x ho;simp only[execOp,ho]at h ⊢;simp at h ⊢;exact h
 .rename_i x ho;exact((Vi.nilCheck ho ρ) w _ w h).2 w'
 .rename_i t x f ho;split at hs
  .rename_i off y hf;obtain⟨g,fd,hg,Fx,_,hy⟩:=iJ hL hf;have iK:y.size≠0:=λe=>by rw[e]at hs;cases hs
   cases hx:ρ x with
   | pointer a=>
    cases a with
    | some a=>
     have e:∀w:World,(execOp ρ o).run P w=.ok (.value (.pointer (some (a.add fd.offset)))) w:=λw=>by
      simp[execOp,ho,hx,Instr.fieldAt,run_underlying hg,Fx,Instr.sureAddr,fieldPlace,hy.sizeOf,iK]
     rw[e w]at h;rw[e w'];simp at h ⊢;exact h
    | none=>simp[execOp,ho,hx,Instr.fieldAt,run_underlying hg,Fx,Instr.sureAddr,stuck]at h
   | _=>simp[execOp,ho,hx,Instr.fieldAt,run_underlying hg,Fx,Instr.sureAddr,stuck]at h
  .cases hs
 .cases hs
def Qmj{P}{ops:Array Oper}{N}{cm}{i}{oi}{v}{S}(kS:∀w,cm i w w)(hi:ops[i]? = some oi)(MD:∀(j:Nat) (o:Oper) cs b,ops[j]? = some o->o.op≠.select cs b):
  ∀(fuel:Nat) (Zm:Array Bool) (a:Act) (w1:World),S w1 ->
   (∀j oj,ops[j]? = some oj->j≠i->Zm.getD j true=false->AS ops Zm i j\/((∀w w',cm j w w'->S w->S w')/\oi.apart ops oj=true)) ->
   i∈Region.ready .any ops Zm->YieldsIf P ops S oi v a ->
   yA P ops N cm fuel (Zm.setIfInBounds i true) (a.put oi.dst v) w1->yA P ops N cm (fuel+1) Zm a w1:=by
 intro fuel;induction fuel with
 | zero=>
  intro Zm a w1 HL _ hr hy H;refine⟨λh=>(by rw[h]at hr;cases hr),λj hj=>?_⟩;by_cases kU:j=i
  .subst kU;exact hy.wpOp hi HL ⟨kS _,H⟩
  .have:=ready_mono hj kU;rw[H.1]at this;cases this
 | succ fuel ih=>
  intro Zm a w1 HL ME hr hy H;have AT:=(mem_ready.1 hr).1;refine⟨λh=>(by rw[h]at hr;cases hr),λj hj=>?_⟩;by_cases kU:j=i
  .subst kU;exact hy.wpOp hi HL ⟨kS _,H⟩
  .have h1:=H.2 j (ready_mono hj kU);obtain⟨aL,oj,KM,Kj⟩:=mem_ready.1 hj;obtain⟨FU,MF⟩:=(ME j oj KM kU aL).resolve_left λhd=>hd.Qa4 AT hj;have h2:=wpOp_putIf KM MF (λcs b=>MD i oi cs b hi) (λcs b=>MD j oj cs b KM) (λ_ _ _ h=>h) hy h1;refine wpOp_mono (λa' w' h3=>?_) h2;refine⟨h3.2.1,ih (Zm.setIfInBounds j true) a' w' (FU _ _ h3.2.1 HL) (λk ok hk PJ Qa5=>?_) (ready_mono hr (Q3 kU)) h3.1 ?_⟩
   .have hku:Zm.getD k true=false:=by
     by_cases VY:j=k
     .subst VY;exact aL
     .rw[getD_set_ne true VY]at Qa5;exact Qa5
    exact(ME k ok hk PJ hku).imp (λhd=>hd.set AT hj) id
   .rw[Array.setIfInBounds_comm _ _ kU];exact h3.2.2
def KS(i:Nat):List Nat->Bool
 | []=>false
 | j::r=>Nat.beq i j || KS i r
def vV{i}:∀{l:List Nat},KS i l=true↔i∈l
 | []=>by simp[KS]
 | j::r=>by simp[KS,vV (l:=r)]
def aM(i:Nat):List Edge->Bool
 | []=>false
 | e::r=>(Region.binds .any e&&Nat.beq e.on i) || aM i r
def jH(done:List Nat):List Edge->Bool
 | []=>false
 | e::r=>(Region.binds .any e&&!KS e.on done) || jH done r
def MG(ops:Array Oper)(done:List Nat)(i:Nat):Nat->List Edge->Bool
 | 0,_=>false
 | _+1,[]=>false
 | n+1,e::r=>(Region.binds .any e&&(Nat.beq e.on i || (!KS e.on done&&match ops[e.on]? with
   | some o=>MG ops done i n o.after.toList
   | none=>false))) || MG ops done i n r
def B6(o:Oper):Bool:=match o.op with
 | .load ..=>true
 | _=>false
def B7(o:Oper):Bool:=match o.op with
 | .insert ..=>true
 | _=>false
def P8(nc:List Nat)(L:Z8)(ops:Array Oper)(done:List Nat)(i:Nat)(oi:Oper):List (Nat × Bool × Option Oper)->Bool
 | []=>true
 | (j,_,some oj)::r=>(aM i oj.after.toList || (((calm oj&&!KS j nc) || still L oi || (B6 oi&&B7 oj))&&oi.apart ops oj) || MG ops done i (4*ops.size) oj.after.toList)&&P8 nc L ops done i oi r
 | (_,_,none)::_=>false
def aN(l:List Nat):Nat->Bool
 | 0=>true
 | n+1=>KS n l&&aN l n
def Qa6{l}:∀{n:Nat},aN l n=true->∀j,j<n->j∈l
 | 0,_,j,h=>ω
 | n+1,h,j,hj=>by
  simp only[aN,Zy,vV]at h;by_cases e:j=n
  .subst e;exact h.1
  .exact Qa6 h.2 j ω
def Qa7{i}:∀{l:List Edge},aM i l=true->∃e∈l,Region.binds .any e=true/\e.on=i
 | [],h=>by cases h
 | e::r,h=>by
  simp only[aM,Df,Zy,Wa]at h;rcases h with h|h
  .exact⟨e,σ,h.1,h.2⟩
  .obtain⟨e',h1,h2⟩:=Qa7 h;exact⟨e',by simp[h1],h2⟩
def Qa8{done}:∀{l:List Edge},jH done l=true->∃e∈l,Region.binds .any e=true/\e.on ∉ done
 | [],h=>by cases h
 | e::r,h=>by
  simp only[jH,Df,Zy,qB]at h;rcases h with h|h
  .exact⟨e,σ,h.1,λhm=>by rw[vV.2 hm]at h;cases h.2⟩
  .obtain⟨e',h1,h2⟩:=Qa8 h;exact⟨e',by simp[h1],h2⟩
def aO{done}:∀{l:List Edge},jH done l=false->∀e∈l,Region.binds .any e=true->e.on∈done
 | [],_,e,h,_=>by cases h
 | e::r,h,e',h',hb=>by
  simp only[jH,LV,Hb]at h;rcases QD.1 h' with h1|h1
  .subst h1;rcases h.1 with h2|h2
   .rw[hb]at h2;cases h2
   .exact vV.1 (by simpa using h2)
  .exact aO h.2 e' h1 hb
structure Marks (ops:Array Oper) (Zm:Array Bool) (done:List Nat):Prop where
 size:Zm.size=ops.size
 get:∀j,j<ops.size->(Zm.getD j true=false↔j ∉ done)
 get':∀j,Zm.getD j false=true↔j∈done/\j<ops.size
 lt:∀j,j∈done->j<ops.size
def Marks.set{ops:Array Oper}{Zm:Array Bool}{done}(M:Marks ops Zm done){i}(hi:i<ops.size):Marks ops (Zm.setIfInBounds i true) (i::done) where
 size:=by simp[M.size]
 get:=λj hj=>by
  by_cases e:i=j
  .subst e;simp[M.size,hi]
  .rw[getD_set_ne true e,M.get j hj];simp[Q3 e]
 get':=λj=>by
  by_cases e:i=j
  .subst e;simp[M.size,hi]
  .rw[getD_set_ne false e,M.get' j];simp[Q3 e]
 lt:=λj hj=>by
  rcases QD.1 hj with e|e
  .subst e;exact hi
  .exact M.lt j e
def qK(o:Oper):Bool:=match o.op with
 | .alloc _=>true
 | .makeMap _ none=>true
 | _=>false
def FV(P:Program)(o:Oper)(ob:Ob)(mk:Nat->D):Prop:=∃(obj:Obj) (val:Nat->Value),
 (∀(ρ:Operand->Value) (w:World),(execOp ρ o).run P w=.ok (.value (val w.heap.size)) (w.alloc obj)) /\
 (∀(Z:Nat->Prop) (h:List Ob) (pl:List Pl) (w:World) (b:Nat),w.heap[b]? = some obj->Ky Z h pl w ob b 0) /\
 (∀(Z:Nat->Prop) (h:List Ob) (pl:List Pl) (w:World) (l b:Nat),h[l]? = some ob->pl[l]? = some (some (b,0))->QC Z h pl w (mk l) (val b))
def Qa9{P}{L}(hL:Z5 P L){o:Oper}{t:TypeId}(ho:o.op=.alloc t){y}(hy:ty L t=some y):
  FV P o ⟨.one,0,(y.zero.map J4).length,1,λ_=>y.zero.map J4⟩ (λl=>.ptr l 0 0 0):=by
 obtain⟨z,hz,Ze⟩:=(hL _ _ hy).zeroValue;refine⟨.cells z.cells t,λb=>.pointer (some ⟨b,0,none⟩),fun ρ w=>?_,λZ h pl w b hb=>?_,λZ h pl w l b h1 h2=>?_⟩
 .simp[execOp,ho,Instr.alloc,newVar,newRow,Ze]
 .refine .Mh rfl ⟨z.cells,t,hb,by simp[<- hz],λ_ _=>rfl,λi j hi hj=>?_⟩;have iR:i=0:=by simp at hi;omega
  subst iR;have VS:j<z.cells.size:=by rw[<- hz]at hj;simpa using hj
  refine⟨QZ z.cells.toList j,?_,.cl _ _ ?_⟩
  .simp only[Qkp,JD,QZ,Q5];rw[kB,zJ VS];rfl
  .rw[<- hz];simp only[nth,QZ,Q5,Ks,kB,zJ VS,KK,KR];exact BU _ _ _
 .exact .ptr _ _ _ _ _ (some (b,0)) _ h1 h2 rfl (QB _) (λ_=>⟨_,_,rfl,σ⟩)
def Qba{P}{o:Oper}{t:TypeId}(ho:o.op=.makeMap t none)(q):FV P o (QK q 0 []) (λl=>.mref l 0):=by
 refine⟨.map #[] 0,λb=>.map (some b),fun ρ w=>?_,λZ h pl w b hb=>?_,λZ h pl w l b h1 h2=>?_⟩
 .simp[execOp,ho,Instr.makeMap]
 .exact lL (kd:=.map) hb ⟨rfl,λi e a h=>by simp at h,λi j a a' _ h=>by simp at h⟩ rfl
 .exact .mref _ _ (QK q 0 []) (some (b,0)) b h1 h2 ⟨by simp[QK,VT,Kd.ty],rfl⟩ (QB _) (λ_=>rfl)
section
variable (P:Program)(base nt:Nat)(w0:Start)
def DG(o : Oper): Bool := calm o && !(o.pos == "!")
def Yz(b : Bool)(o : Oper): Oper := ⟨o.dst, o.op, o.type, bif b then "!" else "", #[], none⟩
theorem Qbb{P}{b}{o:Oper}{a}{w}{K}{Q}:(Yz b o).wp P a w K Q=o.wp P a w K Q:=rfl
def Qml(b)(o):DG (Yz b o)=(calm o&&!b):=by cases b<;>simp[DG,Yz,calm]
def jJ(o:Oper)(w w':World):Prop:=match o.op with
 | .insert ..=>zM w w'
 | _=>DG o=true->Ext w w'
def jJ.ext{o}{w w'}(h:Ext w w'):jJ o w w':=by
 unfold jJ;split
 .exact .ext h
 .exact λ_=>h
def jJ.calm{o}{w w'}(h:jJ o w w')(hc:DG o=true):Ext w w':=by
 unfold jJ at h;split at h
 .rename_i ho;simp[DG,Go.Fg.calm,ho]at hc
 .exact h hc
def jJ.ins{o}{w w'}(h:jJ o w w')(hc:B7 o=true):zM w w':=by
 unfold B7 at hc;split at hc
 .rename_i ho;unfold jJ at h;rw[ho]at h;exact h
 .cases hc
def jJ.mk{o}{w w'}(h:DG o=true->Ext w w')(hi:B7 o=false):jJ o w w':=by
 unfold jJ;split
 .rename_i ho;simp[B7,ho]at hi
 .exact h
def vW(nc:List Nat)(ops:Array Oper)(i:Nat)(w w':World):Prop:=match ops[i]? with
 | some o=>jJ (Yz (KS i nc) o) w w'
 | none=>True
def HM{nc}{ops:Array Oper}{i}{o}{w w'}(ho:ops[i]? = some o):vW nc ops i w w'=jJ (Yz (KS i nc) o) w w':=by simp only[vW,ho]
def AE(o:Oper)(F:St->Prop)(s:St):Prop:=∀(Z:Nat->Prop),PV w0 Z->∀pl a w,Rel Z base nt s pl a w->KX Z base w0 s.h pl w ->
 o.wp P a w (λa' w'=>jJ o w w'/\∃d h' Qi v,F ⟨Za s.fr o.dst d,h'⟩/\Rel Z base nt ⟨Za s.fr o.dst d,h'⟩ Qi a' w'/\KX Z base w0 h' Qi w'/\Tr s.h pl w h' Qi w'/\a'=a.put o.dst v) (λ_ _ _=>False)
def W6(pu:Bool)(o:Oper)(F:St->Prop)(s:St):Prop:=match pu with
 | true=>∃d,Wd P base nt o s d/\(B6 o=true->UC P base nt o s d)/\Zk nt o.dst=true/\F ⟨Za s.fr o.dst d,s.h⟩
 | false=>match qK o with
  | true=>∃ob mk,FV P o ob mk/\Zk nt o.dst=true/\F ⟨Za s.fr o.dst (mk s.h.length),s.h++[ob]⟩
  | false=>AE P base nt w0 o F s
def AX(K:St->Prop):List (Bool × Oper × G)->St->Prop
 | [],s=>K s
 | (pu,o,g)::r,s=>match g with
  | none=>W6 P base nt w0 pu o (AX K r) s
  | some (none,_)=>Zk nt o.dst=true/\AX K r ⟨Za s.fr o.dst (.raw Go.undef),s.h⟩
  | some (some t,b)=>match get s.fr t with
   | .raw (.bool x)=>(x=b->W6 P base nt w0 pu o (AX K r) ⟨put s.fr t (.raw (.bool b)),s.h⟩) /\
     (x=(!b)->Zk nt o.dst=true/\AX K r ⟨Za (put s.fr t (.raw (.bool (!b)))) o.dst (.raw Go.undef),s.h⟩)
   | .raw (.tuple _)=>Zk nt o.dst=true/\AX K r ⟨Za s.fr o.dst (.raw Go.undef),s.h⟩
   | _=>False
end
def K8(nc:List Nat)(ops:Array Oper)(l:List (Nat × Bool)):List (Bool × Oper × G):=l.map λip=>match ops[ip.1]? with
 | some o=>(ip.2,Yz (KS ip.1 nc) o,guardOf ops o)
 | none => (ip.2, ⟨none, .move (.tmp 0), 0, "", #[], none⟩, none)
section
variable {nc:List Nat}{P:Program}{base nt:Nat}{w0:Start}
def Qmm{o:Oper}{ob}{mk}{F}{s:St}(h:FV P o ob mk)(ht:Zk nt o.dst=true)(Q1:base<=w0.w.heap.size)(hF:F ⟨Za s.fr o.dst (mk s.h.length),s.h++[ob]⟩):AE P base nt w0 o F s:=by
 intro Z z pl a w r b;obtain⟨obj,val,h1,h2,h3⟩:=h;have e:∀k,k<w.heap.size->(w.alloc obj).heap[k]? = w.heap[k]? := λk hk=>vP w obj k hk;have JY:(w.alloc obj).heap[w.heap.size]? = some obj:=heap_alloc_new w obj;have qJ:base<=w.heap.size:=Ki Q1 b.1.size;have T:Tr s.h pl w (s.h++[ob]) (pl++[some (w.heap.size,0)]) (w.alloc obj):=Tr.push r.o e _ _ (by intro k q hh;simp at hh;omega);have R':=Zi.PD r.o e ob (QB _) qJ (h2 Z (s.h++[ob]) (pl++[some (w.heap.size,0)]) _ _ JY);have hv:QC Z (s.h++[ob]) (pl++[some (w.heap.size,0)]) (w.alloc obj) (mk s.h.length) (val w.heap.size):=h3 Z _ _ _ _ _ σ (by rw[<- r.o.len];simp);unfold Oper.wp;rw[h1 a.eval w];simp only[Oper.upon_value];refine⟨jJ.ext λk hk=>e k hk,_,_,_,_,hF,?_,b.step T (Dt qJ obj),T,rfl⟩;cases hd:o.dst with
 | none=>exact r.ym T R' _
 | some t=>rw[hd]at ht;exact r.to T R' (jE ht) hv
def W6.ae(Q1:base<=w0.w.heap.size){o}{F}{s}(h:W6 P base nt w0 false o F s):AE P base nt w0 o F s:=by
 simp only[W6]at h;split at h
 .obtain⟨ob,mk,h1,h2,h3⟩:=h;exact Qmm h1 h2 Q1 h3
 .exact h
def QC.MH{Z Z'}{h h'}{pl Qi}{w w':World}(hf:∀b,free Z pl b->b<w.heap.size->free Z' Qi b/\w'.heap[b]? = w.heap[b]?)
  (B8:∀(l:Nat) (o:Ob) (p:Pl),h[l]? = some o->pl[l]? = some p->h'[l]? = some o/\Qi[l]? = some p) (hb:∀(l b q:Nat),pl[l]? = some (some (b,q))->w'.heap[b]? = w.heap[b]?) {d:D} {v:Value} (r:QC Z h pl w d v):QC Z' h' Qi w' d v:=by
 induction r with
 | cl d v hc=>exact .cl d v (hc.mono hf)
 | ref l g off len o p a cap ho hp hk hg hs=>
  refine .ref l g off len o p a cap (B8 l o p ho hp).1 (B8 l o p ho hp).2 hk hg λAu=>?_;rcases hs Au with h1|⟨b,q,c,el,Wb,ha,WN,hc,hl⟩
  .exact .inl h1
  .exact .inr ⟨b,q,c,el,Wb,ha,by rw[hb l b q (by rw[hp,Wb])];exact WN,hc,hl⟩
 | ptr l g i j o p a ho hp hk hg hs=>exact .ptr l g i j o p a (B8 l o p ho hp).1 (B8 l o p ho hp).2 hk hg hs
 | mref l g o p b ho hp hk hg hs=>exact .mref l g o p b (B8 l o p ho hp).1 (B8 l o p ho hp).2 hk hg hs
 | clo f nf cs vs hl hr ih=>exact .clo f nf cs vs hl ih
 | agg cs vs hl hr ih=>exact .agg cs vs hl ih
 | tup cs vs hl hr ih=>exact .tup cs vs hl ih
def Zi.MH{Z Z'}{h}{pl}{w w':World}(R:Zi Z base h pl w)(hf:∀b,free Z pl b->b<w.heap.size->free Z' pl b/\w'.heap[b]? = w.heap[b]?)(e:∀b,b<w.heap.size->w'.heap[b]? = w.heap[b]?):Zi Z' base h pl w' where
 len:=R.len
 inj:=R.inj
 VB:=R.VB
 at_:=λl o b q ho hp=>by
  obtain⟨h1,x⟩:=R.at_ l o b q ho hp;exact⟨h1,x.to rfl rfl rfl (e b (R.lt hp).1) (λ_ _=>rfl) λi j v _ _ hr=>hr.MH hf (λ_ _ _ a b=>⟨a,b⟩) (λl b q hp=>e b (R.lt hp).1)⟩
def Zi.l6{Z Z'}{h}{pl}{w}(R:Zi Z base h pl w){b}(hf:∀c,free Z pl c->free Z' (pl++[some (b,0)]) c)(ha:W0 pl b)(Q1:base<=b){ob}
  (hx:Ky Z' (h++[ob]) (pl++[some (b,0)]) w ob b 0):Zi Z' base (h++[ob]) (pl++[some (b,0)]) w:=by
 refine⟨by simp[R.len],?_,?_,?_⟩
 .intro l l' b' q q' e1 e2;rcases XM e1 with h1|⟨h1,Ji⟩<;>rcases XM e2 with h2|⟨h2,Yu⟩
  .exact R.inj l l' b' q q' h1 h2
  .simp at Yu;obtain⟨rfl,rfl⟩:=Yu;exact absurd h1 (ha l q)
  .simp at Ji;obtain⟨rfl,rfl⟩:=Ji;exact absurd h2 (ha l' q')
  .omega
 .intro l o ho e1;rcases XM e1 with h1|⟨h1,Ji⟩
  .rcases XM ho with h2|⟨h2,Yu⟩
   .exact R.VB l o h2 h1
   .have:=Wc h1;have:=R.len;omega
  .simp at Ji
 .intro l o b' q ho Zh;rcases XM Zh with h1|⟨h1,Ji⟩
  .rcases XM ho with h2|⟨h2,Yu⟩
   .obtain⟨g1,x⟩:=R.at_ l o b' q h2 h1;exact⟨g1,x.to rfl rfl rfl rfl (λ_ _=>rfl) λi j v _ _ hr=>hr.MH (λc hc _=>⟨hf c hc,rfl⟩) (λ_ _ _ a b=>⟨Aw a,Aw b⟩) (λ_ _ _ _=>rfl)⟩
   .have:=Wc h1;have:=R.len;omega
  .rcases XM ho with h2|⟨h2,Yu⟩
   .have:=KD h2;have:=R.len;omega
   .subst Yu;simp at Ji;obtain⟨rfl,rfl⟩:=Ji;exact⟨λ_=>Q1,hx⟩
def Wg(ops:Array Oper)(i:Nat):Bool:=match ops[i]? with
 | some o=>qK o&&o.guard.isNone&&o.after.toList.isEmpty
 | none=>false
def MI(ops:Array Oper)(done:List Nat)(i:Nat):List Edge->Bool
 | []=>false
 | e::r=>(Region.binds .any e&&!KS e.on done&&(!Wg ops e.on || Nat.beq e.on i)) || MI ops done i r
def P9(ops:Array Oper)(done:List Nat)(i:Nat):List (Nat × Bool × Option Oper)->Bool
 | []=>true
 | (j,_,some oj)::r=>(Wg ops j || MI ops done i oj.after.toList)&&P9 ops done i r
 | (_,_,none)::_=>false
def HN(ops:Array Oper)(R:List Nat):List (Nat × Bool × Option Oper):=R.map λi=>(i,false,ops[i]?)
def DH(nc:List Nat)(L:Z8)(ops:Array Oper)(R:List Nat):List (Nat × Bool × Option Oper)->List Nat->Bool
 | [],_=>true
 | (i,p,some o)::r,done=>!KS i done&&!jH done o.after.toList&&(match p with
  | true=>!Wg ops i&&P8 nc L ops done i o (r++HN ops R)
  | false=>P9 ops done i (r++HN ops R))&&DH nc L ops R r (i::done)
 | (_,_,none)::_,_=>false
def Qbc{ops}{done}{i}:∀{l:List Edge},MI ops done i l=true->∃e∈l,Region.binds .any e=true/\e.on ∉ done/\(Wg ops e.on=false\/e.on=i)
 | [],h=>by cases h
 | e::r,h=>by
  simp only[MI,Df,Zy,qB,Wa]at h;rcases h with h|h
  .exact⟨e,σ,h.1.1,(λhm=>by rw[vV.2 hm]at h;exact absurd h.1.2 σ),h.2⟩
  .obtain⟨e',h1,h2⟩:=Qbc h;exact⟨e',by simp[h1],h2⟩
def Qbd{ops:Array Oper}{done}{i}:∀{r:List (Nat × Bool × Option Oper)},(∀x∈r,x.2.2=ops[x.1]?)->P9 ops done i r=true->∀x∈r,∀oj,ops[x.1]? = some oj->Wg ops x.1=true\/MI ops done i oj.after.toList=true
 | [],_,_,x,hx,_,_=>by cases hx
 | (j,p,none)::r,_,h,_,_,_,_=>by cases h
 | (j,p,some o)::r,hr,h,x,hx,oj,KM=>by
  simp only[P9,Zy,Df]at h;rcases QD.1 hx with h1|h1
  .subst h1;have e:some o=ops[j]? := hr (j,p,some o) σ;have KM:ops[j]? = some oj:=KM;rw[KM]at e;cases e;exact h.1
  .exact Qbd (λy hy=>hr y (by simp[hy])) h.2 x h1 oj KM
abbrev En:=Nat × Bool × Option Nat
def Xj(l:List En):List Nat:=l.map (·.1)
def Ye(l:List En):List (Nat × Bool):=l.map λx=>(x.1,x.2.1)
def early:List En->List Nat
 | []=>[]
 | (i,_,some _)::r=>i::early r
 | (_,_,none)::r=>early r
def blocks:List En->List Nat
 | []=>[]
 | (_,_,some b)::r=>b::blocks r
 | (_,_,none)::r=>blocks r
def Yf:List En->Nat
 | []=>0
 | (_,_,some _)::r=>Yf r
 | (_,_,none)::r=>Yf r+1
def HO{j}:∀{l:List En},j∈early l↔∃p b,(j,p,some b)∈l
 | []=>by simp[early]
 | (i,p,some b)::r=>by
  simp only[early,QD,HO (l:=r),Q9,QY];constructor
  .rintro (rfl|⟨p',b',h⟩)
   .exact⟨p,b,.inl ⟨rfl,rfl,rfl⟩⟩
   .exact⟨p',b',.inr h⟩
  .rintro⟨p',b',⟨rfl,_⟩|h⟩
   .exact .inl rfl
   .exact .inr ⟨p',b',h⟩
 | (i,p,none)::r=>by
  simp only[early,QD,HO (l:=r),Q9,reduceCtorEq,and_false,false_or]
def DI{c}:∀{l:List En},c∈blocks l↔∃j p,(j,p,some c)∈l
 | []=>by simp[blocks]
 | (i,p,some b)::r=>by
  simp only[blocks,QD,DI (l:=r),Q9,QY];constructor
  .rintro (rfl|⟨p',b',h⟩)
   .exact⟨i,p,.inl ⟨rfl,rfl,rfl⟩⟩
   .exact⟨p',b',.inr h⟩
  .rintro⟨p',b',⟨_,_,rfl⟩|h⟩
   .exact .inl rfl
   .exact .inr ⟨p',b',h⟩
 | (i,p,none)::r=>by
  simp only[blocks,QD,DI (l:=r),Q9,reduceCtorEq,and_false,false_or]
def l7{j:Nat}{p:Bool}{b:Nat}{l2:List En}:∀l1:List En,Yf (l1++(j,p,none)::l2)=Yf (l1++(j,p,some b)::l2)+1
 | []=>rfl
 | (_,_,some _)::r=>l7 r
 | (_,_,none)::r=>by
  simp only[YT,Yf];rw[l7 (b:=b) r]
def l9{j:Nat}{p:Bool}{b:Nat}{l2:List En}:∀l1:List En,b ∉ blocks (l1++(j,p,none)::l2)->(blocks (l1++(j,p,none)::l2)).Nodup->(blocks (l1++(j,p,some b)::l2)).Nodup
 | [],h,k=>by simp only[zK,blocks]at h k ⊢;exact Zz.2 ⟨h,k⟩
 | (i,q,some c)::r,h,k=>by
  simp only[YT,blocks,QD,YX]at h k ⊢;obtain⟨k1,k2⟩:=Zz.1 k;refine Zz.2 ⟨λhm=>?_,l9 r h.2 k2⟩;obtain⟨j',p',hj⟩:=DI.1 hm;rcases QX.1 hj with h1|h1
  .exact k1 (DI.2 ⟨j',p',QX.2 (.inl h1)⟩)
  .rcases QD.1 h1 with h2|h2
   .cases h2;exact h.1 rfl
   .exact k1 (DI.2 ⟨j',p',QX.2 (.inr (QD.2 (.inr h2)))⟩)
 | (i,q,none)::r,h,k=>by
  simp only[YT,blocks]at h k ⊢;exact l9 r h k
structure aP (P:Program) (ops:Array Oper) (nt:Nat) (w0:Start) (pl:List Pl) (a:Act) (w:World) (i b:Nat):Prop where
 run:∃(o:Oper) (d:Nat) (w1:World) (ρ:Operand->Value) (v:Value) (obj:Obj),ops[i]? = some o/\o.dst=some d/\(execOp ρ o).run P w1=.ok (.value v) (w1.alloc obj)/\b=w1.heap.size/\w.heap[b]? = some obj/\(d<nt->a.tmps.getD d Go.undef=v)
 W0:W0 pl b
 low:w0.w.heap.size<=b
def Qbe{a:Act}{t:Option Nat}{d:Nat}{v:Value}(h:t≠some d):(a.put t v).tmps.getD d Go.undef=a.tmps.getD d Go.undef:=by
 cases t with
 | none=>rfl
 | some t=>
  have:t≠d:=λe=>h (by rw[e]);simp[Act.put,wX,ig this]
def aP.step{P:Program}{ops:Array Oper}{nt:Nat}{w0:Start}{h h':List Ob}{pl Qi:List Pl}{a:Act}{w w':World}{i b:Nat}(p:aP P ops nt w0 pl a w i b)(T:Tr h pl w h' Qi w'){t:Option Nat}(v:Value)
  (hd:∀o d,ops[i]? = some o->o.dst=some d->t≠some d):aP P ops nt w0 Qi (a.put t v) w' i b:=by
 obtain⟨o,d,w1,ρ,u,obj,h1,h2,h3,h4,h5,h6⟩:=p.run;obtain⟨k1,k2⟩:=T.J3 b p.W0 (ju h5);exact⟨⟨o,d,w1,ρ,u,obj,h1,h2,h3,h4,by rw[k2];exact h5,λhn=>by rw[Qbe (hd o d h1 h2)];exact h6 hn⟩,k1,p.low⟩
def aQ{fr}{t}{u}{d}(h:t≠some u):get (Za fr t d) u=get fr u:=by
 cases t with
 | none=>rfl
 | some t=>rw[Za,Fs,Qc (λe=>h (by rw[e]))]
structure xu (nc:List Nat) (P:Program) (L:Z8) (ops:Array Oper) (R:List Nat) (base nt:Nat) (w0:Start) (Z0 Z:Nat->Prop) (l:List En) (done:List Nat) (Zm:Array Bool) (s:St) (pl:List Pl) (a:Act) (w:World):Prop where
 sched:DH nc L ops R ((Ye l).map λip=>(ip.1,ip.2,ops[ip.1]?)) done=true
 cover:∀j,j<ops.size->j ∉ done->j∈Xj l\/j∈R
 MJ:∀j∈R,j ∉ done/\j ∉ Xj l/\Wg ops j=false
 marks:Marks ops Zm (early l++done)
 late:∀i p b,(i,p,some b)∈l->Wg ops i=true
 lp:∀i p q,(i,p,q)∈l->Wg ops i=true->p=false
 z:∀b,Z b↔Z0 b/\b ∉ blocks l
 z0:∀i p b,(i,p,some b)∈l->Z0 b
 AU:(blocks l).Nodup
 Ra:∀i p q,(i,p,q)∈l->Wg ops i=true->∀o d,ops[i]? = some o->o.dst=some d->get s.fr d=.undef
 rel:Rel Z base nt s pl a w
 since:KX Z base w0 s.h pl w
 HP:∀i p b,(i,p,some b)∈l->aP P ops nt w0 pl a w i b
def aR{L}{ops:Array Oper}{R}:∀{l:List En} {done:List Nat},DH nc L ops R ((Ye l).map λip=>(ip.1,ip.2,ops[ip.1]?)) done=true->∀j,j∈Xj l->j ∉ done
 | [],_,_,j,hj=>by simp[Xj]at hj
 | (i,p,q)::r,done,h,j,hj=>by
  simp only[Ye,JQ]at h;cases ho:ops[i]? with
  | none=>rw[ho]at h;cases h
  | some o=>
   rw[ho]at h;simp only[DH,Zy,qB]at h;simp only[Xj,JQ,QD]at hj;rcases hj with rfl|hj
   .exact λhm=>by rw[vV.2 hm]at h;exact absurd h.1.1.1 σ
   .exact λhm=>aR (l:=r) h.2 j hj (QD.2 (.inr hm))
def Marks.same{ops}{Zm}{d d'}(M:Marks ops Zm d)(h:∀j,j∈d↔j∈d'):Marks ops Zm d' where
 size:=M.size
 get:=λj hj=>by rw[M.get j hj,h]
 get':=λj=>by rw[M.get',h]
 lt:=λj hj=>M.lt j ((h j).2 hj)
def aS{ops:Array Oper}{i}{o:Oper}(ho:ops[i]? = some o)(h:Wg ops i=true):qK o=true/\o.guard=none/\∀e,e ∉ o.after:=by
 simp only[Wg,ho,Zy,Option.isNone_iff_eq_none,List.isEmpty_iff]at h;exact⟨h.1.1,h.1.2,λe he=>by have:e∈o.after.toList:=(by simpa using he);rw [h.2] at this; cases this⟩
def mg{ops:Array Oper}{Zm}{done ea}(M:Marks ops Zm (ea++done))(DJ:∀j∈ea,Wg ops j=true){i}:∀{n:Nat} {j:Nat} {oj:Oper} {l:List Edge},ops[j]? = some oj->(∀e∈l,e∈oj.after)->MG ops done i n l=true->AS ops Zm i j
 | 0,_,_,_,_,_,h=>by cases h
 | n+1,_,_,[],_,_,h=>by cases h
 | n+1,j,oj,e::r,hj,hl,h=>by
  simp only[MG,Df,Zy,Wa,qB]at h;rcases h with ⟨hb,h1|⟨h1,h2⟩⟩|h
  .exact .P7 j oj e hj (hl e σ) hb h1
  .split at h2
   .rename_i o ho;have Qb:=(Ws.1 ho).1;refine .step j oj e hj (hl e σ) hb ((M.get e.on Qb).2 λhm=>?_) (mg M DJ ho (λe he=>by simpa using he) h2);rcases QX.1 hm with h3|h3
    .have h4:=(aS ho (DJ _ h3)).2.2;have:o.after.toList=[]:=ij.2 λe he=>h4 e (by simpa using he);rw[this]at h2;cases n<;>simp[MG]at h2
    .rw[vV.2 h3]at h1;cases h1
   .cases h2
  .exact mg M DJ hj (λe he=>hl e (by simp[he])) h
def Qbf{L}{ops:Array Oper}{done ea}{i}{oi:Oper}{Zm}(M:Marks ops Zm (ea++done))(DJ:∀j∈ea,Wg ops j=true):∀{r:List (Nat × Bool × Option Oper)},(∀x∈r,x.2.2=ops[x.1]?)->P8 nc L ops done i oi r=true->∀x∈r,∀oj,ops[x.1]? = some oj->AS ops Zm i x.1\/((((calm oj=true/\KS x.1 nc=false)\/still L oi=true)\/(B6 oi=true/\B7 oj=true))/\oi.apart ops oj=true)
 | [],_,_,x,hx,_,_=>by cases hx
 | (j,p,none)::r,_,h,_,_,_,_=>by cases h
 | (j,p,some o)::r,hr,h,x,hx,oj,KM=>by
  simp only[P8,Zy,Df]at h;rcases QD.1 hx with h1|h1
  .subst h1;have e:some o=ops[j]? := hr (j,p,some o) σ;have KM:ops[j]? = some oj:=KM;rw[KM]at e;cases e;rcases h.1 with (h2|h2)|h2
   .obtain⟨e,he,hb,xv⟩:=Qa7 h2;exact .inl (.P7 j _ e KM (by simpa using he) hb xv)
   .simp only[qB]at h2;exact .inr h2
   .exact .inl (mg M DJ KM (λe he=>by simpa using he) h2)
  .exact Qbf M DJ (λy hy=>hr y (by simp[hy])) h.2 x h1 oj KM
def Rb(ops:Array Oper):Prop:=∀(i j:Nat) (oi oj:Oper) (d:Nat),i≠j->Wg ops i=true->ops[i]? = some oi->ops[j]? = some oj->oi.dst=some d->oj.dst≠some d
def xu.head{L}{ops}{R}{Z0 Z}{i}{p}{q}{r}{done}{Zm}{s}{pl}{a}{w}(I:xu nc P L ops R base nt w0 Z0 Z ((i,p,q)::r) done Zm s pl a w):
  ∃o,ops[i]? = some o/\i ∉ done/\(∀e∈o.after,Region.binds .any e=true->e.on∈done) /\
   (p=true->Wg ops i=false/\P8 nc L ops done i o ((Ye r).map (λip=>(ip.1,ip.2,ops[ip.1]?))++HN ops R)=true)/\(p=false->P9 ops done i ((Ye r).map (λip=>(ip.1,ip.2,ops[ip.1]?))++HN ops R)=true) /\
   DH nc L ops R ((Ye r).map λip=>(ip.1,ip.2,ops[ip.1]?)) (i::done)=true:=by
 have h:=I.sched;simp only[Ye,JQ]at h;cases ho:ops[i]? with
 | none=>rw[ho]at h;cases h
 | some o=>
  rw[ho]at h;simp only[DH,Zy,qB]at h;refine⟨o,rfl,λhm=>by rw[vV.2 hm]at h;exact absurd h.1.1.1 σ,λe he hb=>aO h.1.1.2 e (by simpa using he) hb,λhp=>?_,λhp=>?_,h.2⟩
  .subst hp;have:=h.1.2;simp only[Zy,qB]at this;exact this
  .subst hp;exact h.1.2
def mh{i}{p}{q}{l}(h:(i,p,q)∈l):i∈Xj l:=Z2.2 ⟨_,h,rfl⟩
def xu.next{L}{ops}{R}(hD:Rb ops){Z0 Z}{i}{p}{r}{done}{Zm}{s s'}{pl Qi}{a}{w w'}(I:xu nc P L ops R base nt w0 Z0 Z ((i,p,none)::r) done Zm s pl a w)
  {o:Oper} (ho:ops[i]? = some o) (v:Value) (T:Tr s.h pl w s'.h Qi w') (hr:Rel Z base nt s' Qi (a.put o.dst v) w') (hs:KX Z base w0 s'.h Qi w') (hu:∀d,o.dst≠some d->get s.fr d=.undef->get s'.fr d=.undef) :
  xu nc P L ops R base nt w0 Z0 Z r (i::done) (Zm.setIfInBounds i true) s' Qi (a.put o.dst v) w':=by
 obtain⟨o',Zv,h1,h2,h3,h4,h5⟩:=I.head;rw[ho]at Zv;cases Zv;have Qb:=(Ws.1 ho).1;have QA:∀j p q,(j,p,q)∈r->j≠i:=λj p q hj e=>aR h5 j (mh hj) (by rw[e];simp);have aT:∀j p q,(j,p,q)∈r->Wg ops j=true->∀oj d,ops[j]? = some oj->oj.dst=some d->o.dst≠some d:=λj p q hj hl oj d KM hd=>hD j i oj o d (QA j p q hj) hl KM ho hd;refine⟨h5,λj hj hd=>?_,λj hj=>?_,(I.marks.set Qb).same λj=>?_,λj p b hj=>I.late j p b (JR _ hj),λj p q hj=>I.lp j p q (JR _ hj),I.z,λj p b hj=>I.z0 j p b (JR _ hj),I.AU,λj p q hj hl oj d KM hd=>?_,hr,hs,λj p b hj=>?_⟩
 .simp only[QD,YX]at hd;have:=I.cover j hj hd.2;simp only[Xj,JQ,QD]at this;rcases this with (h|h)|h
  .exact absurd h hd.1
  .exact .inl h
  .exact .inr h
 .obtain⟨k1,k2,k3⟩:=I.MJ j hj;simp only[Xj,JQ,QD,YX]at k2;exact⟨λh=>by
   rcases QD.1 h with h|h
   .exact k2.1 h
   .exact k1 h,k2.2,k3⟩
 .simp only[early,QD,QX];constructor
  .rintro (h|h|h)
   .exact .inr (.inl h)
   .exact .inl h
   .exact .inr (.inr h)
  .rintro (h|h|h)
   .exact .inr (.inl h)
   .exact .inl h
   .exact .inr (.inr h)
 .exact hu d (aT j p q hj hl oj d KM hd) (I.Ra j p q (JR _ hj) hl oj d KM hd)
 .exact(I.HP j p b (JR _ hj)).step T v λoj d KM hd=>aT j p _ hj (I.late j p b (JR _ hj)) oj d KM hd
def Tr.snoc{h h'}{pl Qi}{w w':World}(T:Tr h pl w h' Qi w'){b q}(hb:w.heap.size<=b)(ob):Tr h pl w (h'++[ob]) (Qi++[some (b,q)]) w' where
 J3:=λc hc Qb=>⟨PC (T.J3 c hc Qb).1 λq e=>by simp at e;omega,(T.J3 c hc Qb).2⟩
 obj:=λl o p ho hp=>by
  obtain⟨o',p',h1,h2,h3⟩:=T.obj l o p ho hp;exact⟨o',p',Aw h1,Aw h2,h3⟩
 shape:=λl o o' b q ho Zv hg hp c el hc=>by
  obtain⟨o1,p1,h1,h2,h3⟩:=T.obj l o _ ho hp;rw[Aw h1]at Zv;cases Zv;exact T.shape l o _ b q ho h1 hg hp c el hc
def xu.l6{L}{ops}{R}(hD:Rb ops)(Q1:base<=w0.w.heap.size){Z0 Z}{i b}{p}{r}{done}{Zm}{s}{pl}{a}{w}(I:xu nc P L ops R base nt w0 Z0 Z ((i,p,some b)::r) done Zm s pl a w)
  {o:Oper} (ho:ops[i]? = some o) {ob:Ob} {mk:Nat->D} (hL:FV P o ob mk) (ht:Zk nt o.dst=true) :
  ∃Z',xu nc P L ops R base nt w0 Z0 Z' r (i::done) Zm ⟨Za s.fr o.dst (mk s.h.length),s.h++[ob]⟩ (pl++[some (b,0)]) a w:=by
 obtain⟨o',Zv,h1,h2,h3,h4,h5⟩:=I.head;rw[ho]at Zv;cases Zv;have QA:∀j p q,(j,p,q)∈r->j≠i:=λj p q hj e=>aR h5 j (mh hj) (by rw[e];simp);have MK:=I.late i p b (J2 ..);have aT:∀j p q,(j,p,q)∈r->Wg ops j=true->∀oj d,ops[j]? = some oj->oj.dst=some d->o.dst≠some d:=λj p q hj hl oj d KM hd=>hD j i oj o d (QA j p q hj) hl KM ho hd;obtain⟨o1,d,w1,ρ,v,obj,g1,g2,g3,g4,g5,g6⟩:=(I.HP i p b (J2 ..)).run;rw[ho]at g1;cases g1;have ML:=(I.HP i p b (J2 ..)).W0;have MM:=(I.HP i p b (J2 ..)).low;obtain⟨Qbg,val,k1,k2,k3⟩:=hL;have ke:=k1 ρ w1;rw[g3]at ke;simp only[Result.ok.injEq,Next.value.injEq]at ke;obtain⟨rfl,ke2⟩:=ke;have B8:obj=Qbg:=by
  have e1:=heap_alloc_new w1 obj;have e2:=heap_alloc_new w1 Qbg;rw[ke2,e2]at e1;exact(Mf e1).symm
 subst B8;have hdn:d<nt:=by rw[g2]at ht;exact jE ht
 have hz:∀c,Z c↔Z0 c/\c≠b/\c ∉ blocks r:=λc=>by rw[I.z c];simp only[blocks,QD,YX]
 have AV:b ∉ blocks r:=by have:=I.AU;simp only[blocks]at this;exact(Zz.1 this).1
 have Qmp:Z0 b:=I.z0 i p b (J2 ..);have Yy:∀c,free Z pl c->free (λc=>Z0 c/\c ∉ blocks r) (pl++[some (b,0)]) c:=λc hc=>⟨⟨((hz c).1 hc.1).1,((hz c).1 hc.1).2.2⟩,PC hc.2 λq e=>by simp at e;exact((hz c).1 hc.1).2.1 e.1.symm⟩;have hlen:pl.length=s.h.length:=I.rel.o.len;have hx:=k2 (λc=>Z0 c/\c ∉ blocks r) (s.h++[ob]) (pl++[some (b,0)]) w b g5;have hO:=I.rel.o.l6 Yy ML (Ki Q1 MM) hx;have hv:=k3 (λc=>Z0 c/\c ∉ blocks r) (s.h++[ob]) (pl++[some (b,0)]) w s.h.length b σ (by rw[<- hlen];simp);have AW:∀{d v},QC Z s.h pl w d v->QC (λc=>Z0 c/\c ∉ blocks r) (s.h++[ob]) (pl++[some (b,0)]) w d v:=λhr=>hr.MH (λc hc _=>⟨Yy c hc,rfl⟩) (λ_ _ _ a b=>⟨Aw a,Aw b⟩) (λ_ _ _ _=>rfl);refine⟨λc=>Z0 c/\c ∉ blocks r,h5,λj hj hd=>?_,λj hj=>?_,I.marks.same λj=>?_,λj p b hj=>I.late j p b (JR _ hj),λj p q hj=>I.lp j p q (JR _ hj),λc=>Iff.rfl,λj p b hj=>I.z0 j p b (JR _ hj),?_,λj p q hj hl oj d KM hd=>?_,⟨I.rel.nt,I.rel.defers,λt=>?_,hO⟩,⟨I.since.1,?_,⟨λc hc=>?_,λl c q e h0=>?_⟩⟩,λj p b' hj=>?_⟩
 .simp only[QD,YX]at hd;have:=I.cover j hj hd.2;simp only[Xj,JQ,QD]at this;rcases this with (h|h)|h
  .exact absurd h hd.1
  .exact .inl h
  .exact .inr h
 .obtain⟨k1,k2,k3⟩:=I.MJ j hj;simp only[Xj,JQ,QD,YX]at k2;exact⟨λh=>by
   rcases QD.1 h with h|h
   .exact k2.1 h
   .exact k1 h,k2.2,k3⟩
 .simp only[early,QD,QX];constructor
  .rintro ((h|h)|h)
   .exact .inr (.inl h)
   .exact .inl h
   .exact .inr (.inr h)
  .rintro (h|h|h)
   .exact .inl (.inr h)
   .exact .inl (.inl h)
   .exact .inr h
 .have:=I.AU;simp only[blocks]at this;exact(Zz.1 this).2
 .rw[aQ (aT j p q hj hl oj d KM hd)];exact I.Ra j p q (JR _ hj) hl oj d KM hd
 .rw[g2,Za,Fs];by_cases e:t=d
  .rw[Qd e,e,g6 hdn,<- g4];exact hv
  .rw[Qc e];exact AW (I.rel.fr t)
 .exact I.since.2.1.snoc MM ob
 .exact(I.z c).1 (I.since.2.2.new c hc) |> λh=>⟨h.1,λhm=>h.2 (by simp only[blocks,QD];exact .inr hm)⟩
 .rcases XM e with h1|⟨h1,Ji⟩
  .exact(I.z c).1 (I.since.2.2.own l c q h1 h0) |> λh=>⟨h.1,λhm=>h.2 (by simp only[blocks,QD];exact .inr hm)⟩
  .simp at Ji;obtain⟨rfl,rfl⟩:=Ji;exact⟨Qmp,AV⟩
 .have P':=I.HP j p b' (JR _ hj);exact⟨P'.run,PC P'.W0 λq e=>by
   simp at e;exact AV (by rw[e.1];exact DI.2 ⟨j,p,hj⟩),P'.low⟩
def HQ{j b:Nat}{p:Bool}{l1 l2:List En}{x:En}(h:x∈l1++(j,p,some b)::l2):x∈l1++(j,p,none)::l2\/x=(j,p,some b):=by
 rcases QX.1 h with h|h
 .exact .inl (QX.2 (.inl h))
 .rcases QD.1 h with h|h
  .exact .inr h
  .exact .inl (QX.2 (.inr (JR _ h)))
def Qbh{j b:Nat}{p:Bool}{l1 l2:List En}{i c:Nat}{q:Bool}(h:(i,q,some c)∈l1++(j,p,none)::l2):(i,q,some c)∈l1++(j,p,some b)::l2:=by
 rcases QX.1 h with h|h
 .exact QX.2 (.inl h)
 .rcases QD.1 h with h|h
  .cases h
  .exact QX.2 (.inr (JR _ h))
def xu.exec{L:Z8}{ops:Array Oper}{R:List Nat}(hD:Rb ops)(Q1:base<=w0.w.heap.size){Z0 Z:Nat->Prop}{j:Nat}{p:Bool}{l1 l2:List En}{done:List Nat}{Zm:Array Bool}{s:St}{pl:List Pl}{a:Act}{w:World}(I:xu nc P L ops R base nt w0 Z0 Z (l1++(j,p,none)::l2) done Zm s pl a w)
  {o:Oper} (ho:ops[j]? = some o) (hl:Wg ops j=true) {d:Nat} (hd:o.dst=some d) {v:Value} {obj:Obj} (Ze:(execOp a.eval o).run P w=.ok (.value v) (w.alloc obj)) (huq:∀i p' q,(i,p',q)∈l1++(j,p,none)::l2->q≠none->i≠j) :
  ∃Z',xu nc P L ops R base nt w0 Z0 Z' (l1++(j,p,some w.heap.size)::l2) done (Zm.setIfInBounds j true) s pl (a.put o.dst v) (w.alloc obj):=by
 have Qb:=(Ws.1 ho).1;have hm:(j,p,none)∈l1++(j,p,none)::l2:=QX.2 (.inr (J2 ..));have e:∀k,k<w.heap.size->(w.alloc obj).heap[k]? = w.heap[k]? := λk hk=>vP w obj k hk;have JY:(w.alloc obj).heap[w.heap.size]? = some obj:=heap_alloc_new w obj;have Ju:w.heap.size<(w.alloc obj).heap.size:=ju JY;have qJ:base<=w.heap.size:=Ki Q1 I.since.1.size;have xo:∀c,c∈blocks (l1++(j,p,none)::l2)->c<w.heap.size:=λc hc=>by
  obtain⟨i,q,hq⟩:=DI.1 hc;obtain⟨_,_,_,_,_,_,_,_,_,_,h5,_⟩:=(I.HP i q c hq).run;exact ju h5
 have AV:w.heap.size ∉ blocks (l1++(j,p,none)::l2):=λh=>by have:=xo _ h;omega
 have aU:Z0 w.heap.size:=((I.z _).1 (I.since.2.2.new _ (QB _))).1;have KL:∀c,c∈blocks (l1++(j,p,some w.heap.size)::l2)↔c∈blocks (l1++(j,p,none)::l2)\/c=w.heap.size:=λc=>by
  rw[DI,DI];constructor
  .rintro⟨i,q,h⟩;rcases HQ h with h|h
   .exact .inl ⟨i,q,h⟩
   .cases h;exact .inr rfl
  .rintro (⟨i,q,h⟩|rfl)
   .exact⟨i,q,Qbh h⟩
   .exact⟨j,p,QX.2 (.inr (J2 ..))⟩
 have hZ:∀c,(Z0 c/\c ∉ blocks (l1++(j,p,some w.heap.size)::l2))↔Z c/\c≠w.heap.size:=λc=>by
  rw[I.z c,KL c,YX,and_assoc]
 have Yy:∀c,free Z pl c->c<w.heap.size->free (λc=>Z0 c/\c ∉ blocks (l1++(j,p,some w.heap.size)::l2)) pl c/\(w.alloc obj).heap[c]? = w.heap[c]? := λc hc Qb=>⟨⟨(hZ c).2 ⟨hc.1,ω⟩,hc.2⟩,e c Qb⟩;have AW:∀{d v},QC Z s.h pl w d v->QC (λc=>Z0 c/\c ∉ blocks (l1++(j,p,some w.heap.size)::l2)) s.h pl (w.alloc obj) d v:=λhr=>hr.MH Yy (λ_ _ _ a b=>⟨a,b⟩) (λl b q hp=>e b (I.rel.o.lt hp).1);have T:Tr s.h pl w s.h pl (w.alloc obj):=Tr.ext I.rel.o e;refine⟨λc=>Z0 c/\c ∉ blocks (l1++(j,p,some w.heap.size)::l2),?_,?_,?_,(I.marks.set Qb).same λi=>?_,λi q b h=>?_,λi q u h hl=>?_,λc=>Iff.rfl,λi q b h=>?_,l9 _ AV I.AU,λi q u h MK oi di aV aW=>?_,⟨by rw[hd];simp[Act.put,I.rel.nt],by rw[hd];exact I.rel.defers,λt=>?_,I.rel.o.MH Yy e⟩,⟨I.since.1.trans (Dt qJ obj),I.since.2.1.trans T,⟨λc hc=>(hZ c).2 ⟨I.since.2.2.new c ω,ω⟩,λl c q e1 h0=>(hZ c).2 ⟨I.since.2.2.own l c q e1 h0,by have:=(I.rel.o.lt e1).1;omega⟩⟩⟩,λi q b h=>?_⟩
 .have:=I.sched;simpa[Ye] using this
 .have:=I.cover;simpa[Xj] using this
 .have:=I.MJ;simpa[Xj] using this
 .simp only[QD,QX,HO];constructor
  .rintro (rfl|⟨q,b,h⟩|h)
   .exact .inl ⟨p,_,.inr (.inl rfl)⟩
   .exact .inl ⟨q,b,by have:=Qbh (b:=w.heap.size) (QX.2 (h.imp id QD.2));simpa using this⟩
   .exact .inr h
  .rintro (⟨q,b,h⟩|h)
   .rcases HQ (QX.2 (h.imp id QD.2)) with h|h
    .exact .inr (.inl ⟨q,b,by simpa using h⟩)
    .cases h;exact .inl rfl
   .exact .inr (.inr h)
 .rcases HQ h with h|h
  .exact I.late i q b h
  .cases h;exact hl
 .rcases HQ h with h|h
  .exact I.lp i q u h hl
  .cases h;exact I.lp j p none hm hl
 .rcases HQ h with h|h
  .exact I.z0 i q b h
  .cases h;exact aU
 .rcases HQ h with h|h
  .exact I.Ra i q u h MK oi di aV aW
  .cases h;exact I.Ra j p none hm MK oi di aV aW
 .by_cases ht:t=d
  .have:=I.Ra j p none hm hl o d ho hd;rw[ht,this];exact .cl _ _ (.undef _)
  .rw[Qbe (by rw[hd];exact λh=>ht (Mf h).symm)];exact AW (I.rel.fr t)
 .rcases HQ h with h|h
  .refine(I.HP i q b h).step T v λoi di aV aW=>?_;exact hD i j oi o di (huq i q (some b) h σ) (I.late i q b h) aV ho aW
  .cases h;refine⟨⟨o,d,w,a.eval,v,obj,ho,hd,Ze,rfl,JY,λhn=>?_⟩,λl q e1=>?_,I.since.1.size⟩
   .have:d<a.tmps.size:=by rw[I.rel.nt];exact hn
    simp[Act.put,hd,wX,this]
   .have:=(I.rel.o.lt e1).1;omega
def DK(nc:List Nat)(P:Program)(base nt:Nat)(w0:Start)(ops:Array Oper)(K:St->Prop):Nat->List Nat->List Nat->St->Prop
 | 0,_,_,s=>K s
 | n+1,R,done,s=>∀i∈R,∀o,ops[i]? = some o->jH done o.after.toList=false->AX P base nt w0 (DK nc P base nt w0 ops K n (R.erase i) (i::done)) [(false,Yz (KS i nc) o,guardOf ops o)] s
def yB(ops:Array Oper):List Nat->List Nat->Bool
 | [],_=>true
 | i::r,done=>(match ops[i]? with
  | some o=>!jH done o.after.toList
  | none=>false)&&yB ops r (i::done)
def QnJ{done MN}(h:∀j∈done,j∈MN):∀{l:List Edge},jH done l=false->jH MN l=false
 | [],_=>rfl
 | e::r,hh=>by
  simp only[jH,LV,Hb,Bool.not_eq_false']at hh ⊢;exact⟨hh.1.imp id λk=>vV.2 (h _ (vV.1 k)),QnJ h hh.2⟩
def Qbi{ops}:∀{R done MN:List Nat},(∀j∈done,j∈MN)->yB ops R done=true->yB ops R MN=true
 | [],_,_,_,_=>rfl
 | i::r,done,MN,h,hh=>by
  simp only[yB,Zy]at hh ⊢;refine⟨?_,Qbi (λj hj=>by
   rcases QD.1 hj with rfl|hj
   .exact J2 ..
   .exact JR _ (h j hj)) hh.2⟩
  have h1:=hh.1;cases ho:ops[i]? with
  | none=>rw[ho]at h1;cases h1
  | some o=>
   rw[ho]at h1;simp only[qB]at h1 ⊢;exact QnJ h h1
def Qbj{ops}{j}:∀{R done:List Nat},yB ops R done=true->yB ops (R.erase j) (j::done)=true
 | [],_,_=>rfl
 | i::r,done,h=>by
  simp only[yB,Zy]at h;by_cases K7:i=j
  .subst K7;rw[List.erase_cons_head];exact h.2
  .rw[List.erase_cons_tail (by simpa using K7)];simp only[yB,Zy];refine⟨?_,Qbi (λk hk=>?_) (Qbj (j:=j) h.2)⟩
   .have h1:=h.1;cases ho:ops[i]? with
    | none=>rw[ho]at h1;cases h1
    | some o=>
     rw[ho]at h1;simp only[qB]at h1 ⊢;exact QnJ (λk hk=>JR _ hk) h1
   .simp only[QD]at hk ⊢;rcases hk with h1|h1|h1
    .exact .inr (.inl h1)
    .exact .inl h1
    .exact .inr (.inr h1)
def Qmr{ops:Array Oper}(Q1:base<=w0.w.heap.size){F}{Z}{i}{o}(ho:ops[i]? = some o){s:St}{pl}{a}{w}(r:Rel Z base nt s pl a w)(b:KX Z base w0 s.h pl w)
  (h:AX P base nt w0 F [(false,Yz (KS i nc) o,guardOf ops o)] s):wpOp P ops (λ_ _ _=>False) i (λa' w'=>vW nc ops i w w'/\∃s' Qi,F s'/\Rel Z base nt s' Qi a' w'/\KX Z base w0 s'.h Qi w') a w:=by
 have skip:∀(s1:St),s1.h=s.h->Rel Z base nt s1 pl a w->W3 (guardOf ops o) a.tmps=false->Zk nt (Yz (KS i nc) o).dst=true->F ⟨Za s1.fr (Yz (KS i nc) o).dst (.raw Go.undef),s1.h⟩->_:=λs1 hh r1 hw ht hk=>by
  have hy:YieldsIf P ops (λ_:World=>True) o Go.undef a:=.inr ⟨by rw[My];exact hw,rfl⟩;have Jy:Rel Z base nt ⟨Za s1.fr o.dst (.raw Go.undef),s1.h⟩ pl (a.put o.dst Go.undef) w:=r1.skip ht;exact hy.wpOp (P:=P) (Q:=λ_ _ _=>False) (K:=λa' w'=>vW nc ops i w w'/\∃s' Qi,F s'/\Rel Z base nt s' Qi a' w'/\KX Z base w0 s'.h Qi w') ho trivial ⟨by rw[HM ho];exact .ext (Ext.refl _),_,pl,hk,Jy,by rw[show (⟨Za s1.fr o.dst (.raw Go.undef),s1.h⟩:St).h=s.h from hh];exact b⟩
 have go:∀(s1:St),s1.h=s.h->Rel Z base nt s1 pl a w->W3 (guardOf ops o) a.tmps=true->W6 P base nt w0 false (Yz (KS i nc) o) F s1->wpOp P ops (λ_ _ _=>False) i (λa' w'=>vW nc ops i w w'/\∃s' Qi,F s'/\Rel Z base nt s' Qi a' w'/\KX Z base w0 s'.h Qi w') a w:=λs1 hh r1 hw hk=>by
  unfold wpOp;simp only[ho,My,hw,Vs];refine .inl ?_;have:=hk.ae Q1 Z trivial pl a w r1 (by rw[hh];exact b);rw[Qbb]at this;refine Oper.wp_mono (λa' w' hq=>?_) this;obtain⟨he,d,h',Qi,v,hF,r',b',T,rfl⟩:=hq;exact⟨by rw[HM ho];exact he,_,Qi,hF,r',b'⟩
 simp only[AX]at h;split at h
 .rename_i hg;exact go s rfl r (by rw[hg];rfl) h
 .rename_i x hg;exact skip s rfl r (by rw[hg];rfl) h.1 h.2
 .rename_i t x hg;split at h
  .rename_i y hy;have hr:=r.fr t;rw[hy]at hr;have hv:=Jn hr;have hb:=lT hv;by_cases kH:y=x
   .refine go ⟨put s.fr t (.raw (.bool x)),s.h⟩ rfl (r.tell (t:=t) (d:=.raw (.bool x)) (by rw[hv,kH];exact .cl _ _ (.raw _))) ?_ (h.1 kH);rw[hg];simp[W3,hb,kH]
   .have FM:y=(!x):=by cases x<;>cases y<;>simp_all
    have:=h.2 FM;refine skip ⟨put s.fr t (.raw (.bool !x)),s.h⟩ rfl (r.tell (t:=t) (d:=.raw (.bool (!x))) (by rw[hv,FM];exact .cl _ _ (.raw _))) ?_ this.1 this.2;rw[hg];simp[W3,hb,kH]
  .rename_i vs hy;have hr:=r.fr t;rw[hy]at hr;refine skip s rfl r ?_ h.1 h.2;rw[hg];simp[W3,lU (Jn hr)]
  .exact h.elim
def QnK{ops:Array Oper}{K}(Q1:base<=w0.w.heap.size){Z}:∀(n:Nat) (R done:List Nat) (Zm:Array Bool) (s:St) (pl:List Pl) (a:Act) (w:World),R.length=n->Marks ops Zm done->(∀j,j<ops.size->j ∉ done->j∈R)->(∀j∈R,j ∉ done)->R.Nodup->yB ops R done=true ->
  Rel Z base nt s pl a w->KX Z base w0 s.h pl w->DK nc P base nt w0 ops K n R done s->yA P ops (λa w=>∃s pl,K s/\Rel Z base nt s pl a w/\KX Z base w0 s.h pl w) (vW nc ops) n Zm a w
 | 0,R,done,Zm,s,pl,a,w,hl,M,hc,hn,hd,ht,r,b,h=>by
  have:R=[]:=Di.1 hl;subst this;refine⟨ij.2 λj hj=>?_,s,pl,h,r,b⟩;obtain⟨h1,o,ho,_⟩:=mem_ready.1 hj;have Qb:=(Ws.1 ho).1;have:=hc j Qb ((M.get j Qb).1 h1);cases this
 | n+1,R,done,Zm,s,pl,a,w,hl,M,hc,hn,hd,ht,r,b,h=>by
  have ready:∀j o,ops[j]? = some o->j ∉ done->jH done o.after.toList=false->j∈Region.ready .any ops Zm:=λj o ho hj hh=>by
   have Qb:=(Ws.1 ho).1;exact mem_ready.2 ⟨(M.get j Qb).2 hj,o,ho,λe he hb=>(M.get' e.on).2 ⟨aO hh e (by simpa using he) hb,M.lt _ (aO hh e (by simpa using he) hb)⟩⟩
  refine⟨λe=>?_,λj hj=>?_⟩
  .cases R with
   | nil=>cases hl
   | cons i rr=>
    simp only[yB,Zy]at ht;have h1:=ht.1;split at h1
    .rename_i o ho;have:=ready i o ho (hn i (J2 ..)) (by simpa using h1);rw[e]at this;cases this
    .cases h1
  .obtain⟨h1,o,ho,Kj⟩:=mem_ready.1 hj;have Qb:=(Ws.1 ho).1;have hjd:=(M.get j Qb).1 h1;have aX:=hc j Qb hjd;have hh:jH done o.after.toList=false:=by
    cases hb:jH done o.after.toList
    .rfl
    .obtain⟨e,he,hbi,xv⟩:=Qa8 hb;exact absurd ((M.get' e.on).1 (Kj e (by simpa using he) hbi)).1 xv
   refine wpOp_mono (λa' w' h3=>?_) (Qmr Q1 ho r b (h j aX o ho hh));obtain⟨h4,s',Qi,hF,r',b'⟩:=h3;refine⟨h4,QnK Q1 n (R.erase j) (j::done) (Zm.setIfInBounds j true) s' Qi a' w' (by rw[List.length_erase_of_mem aX,hl];rfl) (M.set Qb) (λk hk JE=>?_) (λk hk JE=>?_) (hd.erase _) (Qbj ht) r' b' hF⟩
   .simp only[QD,YX]at JE;exact(List.mem_erase_of_ne JE.1).2 (hc k hk JE.2)
   .have hkR:=List.mem_of_mem_erase hk;rcases QD.1 JE with rfl|h5
    .exact(hd.not_mem_erase) hk
    .exact hn k hkR h5
def Qmv{L}(Qmw:Z5 P L){ops:Array Oper}{R D0:List Nat}{K}(MD:Region.noSelect ops=true)(Q1:base<=w0.w.heap.size)(hD:Rb ops)(hL:∀j o,ops[j]? = some o->Wg ops j=true->(∃ob mk,FV P o ob mk)/\∃d,o.dst=some d){Z0}(hRn:R.Nodup)(hRt:yB ops R D0=true):
  ∀(m:Nat) (l:List En) (done:List Nat) (Zm:Array Bool) (s:St) (pl:List Pl) (a:Act) (w:World) (Z:Nat->Prop),l.length+Yf l<=m->xu nc P L ops R base nt w0 Z0 Z l done Zm s pl a w->(∀j,j∈D0↔j∈Xj l\/j∈done)->AX P base nt w0 (DK nc P base nt w0 ops K R.length R D0) (K8 nc ops (Ye l)) s ->
   yA P ops (λa w=>∃s pl,K s/\Rel Z0 base nt s pl a w/\KX Z0 base w0 s.h pl w) (vW nc ops) (R.length+Yf l) Zm a w:=by
 intro m;induction m with
 | zero=>
  intro l done Zm s pl a w Z hm I Rc h;cases l with
  | cons x r=>simp at hm
  | nil=>
   have hZ:Z=Z0:=funext λb=>propext (by rw[I.z b];simp[blocks]);subst hZ;have HS:∀j,j∈D0↔j∈done:=λj=>by rw[Rc j];simp[Xj]
   refine QnK Q1 R.length R D0 Zm s pl a w rfl (I.marks.same λj=>by rw[HS j];simp[early]) (λj hj hd=>?_) (λj hj=>by rw[HS j];exact(I.MJ j hj).1) hRn hRt I.rel I.since h;have:=I.cover j hj (λh=>hd ((HS j).2 h));simpa[Xj] using this
 | succ m ih=>
  intro l done Zm s pl a w Z hm I Rc h;cases l with
  | nil=>
   have hZ:Z=Z0:=funext λb=>propext (by rw[I.z b];simp[blocks]);subst hZ;have HS:∀j,j∈D0↔j∈done:=λj=>by rw[Rc j];simp[Xj]
   refine QnK Q1 R.length R D0 Zm s pl a w rfl (I.marks.same λj=>by rw[HS j];simp[early]) (λj hj hd=>?_) (λj hj=>by rw[HS j];exact(I.MJ j hj).1) hRn hRt I.rel I.since h;have:=I.cover j hj (λh=>hd ((HS j).2 h));simpa[Xj] using this
  | cons x r=>
   obtain⟨i,p,q⟩:=x;obtain⟨o,ho,ZU,Qbm,Qmx,Qmy,yq⟩:=I.head;have Qb:=(Ws.1 ho).1;have vX:K8 nc ops (Ye ((i,p,q)::r))=(p,Yz (KS i nc) o,guardOf ops o)::K8 nc ops (Ye r):=by simp[K8,Ye,ho]
   rw[vX]at h;have DJ:∀j∈early ((i,p,q)::r),Wg ops j=true:=λj hj=>by obtain⟨p',b,hb⟩:=HO.1 hj;exact I.late j p' b hb
   have QA:∀j p q,(j,p,q)∈r->j≠i:=λj p q hj e=>aR yq j (mh hj) (by rw[e];simp);have aY:∀j,j∈D0↔j∈Xj r\/j∈i::done:=λj=>by
    rw[Rc j];simp only[Xj,JQ,QD];constructor
    .rintro ((h|h)|h)
     .exact .inr (.inl h)
     .exact .inl h
     .exact .inr (.inr h)
    .rintro (h|h|h)
     .exact .inl (.inr h)
     .exact .inl (.inl h)
     .exact .inr h
   cases q with
   | some b=>
    have MK:=I.late i p b (J2 ..);obtain⟨g1,g2,_⟩:=aS ho MK;have hp:=I.lp i p _ (J2 ..) MK;subst hp;have hg:guardOf ops o=none:=by simp[guardOf,g2]
    rw[hg]at h;simp only[AX,W6]at h;rw[show qK (Yz (KS i nc) o)=true from g1]at h;obtain⟨ob,mk,h1,h2,h3⟩:=h;obtain⟨Z',I'⟩:=I.l6 hD Q1 ho (show FV P o ob mk from h1) h2;have:=ih r (i::done) Zm _ _ a w Z' (by simp only[Kv,Yf]at hm;omega) I' aY h3;exact this
   | none=>
    have hni:i ∉ early ((i,p,none)::r)++done:=λhm=>by
     rcases QX.1 hm with h1|h1
     .obtain⟨p',b,hb⟩:=HO.1 h1;rcases QD.1 hb with h2|h2
      .cases h2
      .exact QA _ _ _ h2 rfl
     .exact ZU h1
    have mn:i∈Region.ready .any ops Zm:=mem_ready.2 ⟨(I.marks.get i Qb).2 hni,o,ho,λe he hb=>(I.marks.get' e.on).2 ⟨QX.2 (.inr (Qbm e he hb)),I.marks.lt _ (QX.2 (.inr (Qbm e he hb)))⟩⟩;have Mp:r.length+Yf r<=m:=by simp only[Kv,Yf]at hm;omega
    have first:p=true->∀(s1:St) (v:Value),s1.h=s.h->YieldsIf P ops (λw'=>(still L o=true\/Ext w w')\/(B6 o=true/\zM w w')) o v a ->
      Rel Z base nt s1 pl (a.put o.dst v) w->(∀d,o.dst≠some d->get s.fr d=.undef->get s1.fr d=.undef)->AX P base nt w0 (DK nc P base nt w0 ops K R.length R D0) (K8 nc ops (Ye r)) s1->yA P ops (λa w=>∃s pl,K s/\Rel Z0 base nt s pl a w/\KX Z0 base w0 s.h pl w) (vW nc ops) (R.length+Yf r+1) Zm a w:=by
     intro hp s1 v hh hy hr hu hk;have I':=I.next hD ho v (s':=s1) (by rw[hh];exact Tr.refl _ _ _) hr (by rw[hh];exact I.since) hu;have aZ:=ih r (i::done) (Zm.setIfInBounds i true) s1 pl (a.put o.dst v) w Z Mp I' aY hk;refine Qmj (λw=>by rw[HM ho];exact .ext (Ext.refl _)) ho (Region.noSelect_spec MD) _ Zm a w (.inl (.inr (Ext.refl _))) (λj oj hj kU hu'=>?_) mn hy aZ;have Re:=(Ws.1 hj).1;have Rf:=(I.marks.get j Re).1 hu';have Rg:=I.cover j Re λhd=>Rf (QX.2 (.inr hd));simp only[Xj,JQ,QD]at Rg;have K9:∃y∈(Ye r).map (λip=>(ip.1,ip.2,ops[ip.1]?))++HN ops R,y.1=j/\y.2.2=ops[j]? := by
      rcases Rg with (h|h)|h
      .exact absurd h kU
      .obtain⟨y,ze,jA⟩:=Z2.1 h;exact⟨(y.1,y.2.1,ops[y.1]?),QX.2 (.inl (Z2.2 ⟨(y.1,y.2.1),Z2.2 ⟨y,ze,rfl⟩,rfl⟩)),jA,by rw[jA]⟩
      .exact⟨(j,false,ops[j]?),QX.2 (.inr (Z2.2 ⟨j,h,rfl⟩)),rfl,rfl⟩
     obtain⟨y,ze,jA,hy3⟩:=K9;have:=Qbf I.marks DJ (r:=(Ye r).map (λip=>(ip.1,ip.2,ops[ip.1]?))++HN ops R) (λx hx=>by
      rcases QX.1 hx with hx|hx
      .obtain⟨z,_,rfl⟩:=Z2.1 hx;rfl
      .obtain⟨z,_,rfl⟩:=Z2.1 hx;rfl) (Qmx hp).2 y ze oj (by rw[jA];exact hj)
     rw[jA]at this;refine this.imp id λh=>⟨λw1 w2 hc hs=>?_,h.2⟩;rw[HM hj]at hc;rcases h.1 with (h1|h1)|h1
     .have he:=hc.calm (by rw[Qml];simp[h1.1,h1.2]);rcases hs with (hs|hs)|hs
      .exact .inl (.inl hs)
      .exact .inl (.inr (hs.trans he))
      .exact .inr ⟨hs.1,hs.2.trans (.ext he)⟩
     .exact .inl (.inl h1)
     .have he:=hc.ins (by simpa[B7,Yz] using h1.2);rcases hs with (hs|hs)|hs
      .exact .inl (.inl hs)
      .exact .inr ⟨h1.1,(zM.ext hs).trans he⟩
      .exact .inr ⟨hs.1,hs.2.trans he⟩
    have alone:p=false->wpOp P ops (λ_ _ _=>False) i (λa' w'=>vW nc ops i w w'/\yA P ops (λa w=>∃s pl,K s/\Rel Z0 base nt s pl a w/\KX Z0 base w0 s.h pl w) (vW nc ops) (R.length+Yf r) (Zm.setIfInBounds i true) a' w') a w ->
      yA P ops (λa w=>∃s pl,K s/\Rel Z0 base nt s pl a w/\KX Z0 base w0 s.h pl w) (vW nc ops) (R.length+Yf r+1) Zm a w:=by
     intro hp hi;refine⟨λe=>(by rw[e]at mn;cases mn),λj hj=>?_⟩;by_cases kU:j=i
     .subst kU;exact hi
     .obtain⟨aL,oj,KM,Kj⟩:=mem_ready.1 hj;have Re:=(Ws.1 KM).1;have Rf:=(I.marks.get j Re).1 aL;have Rg:=I.cover j Re λhd=>Rf (QX.2 (.inr hd));simp only[Xj,JQ,QD]at Rg;have Qbn:=λx hx=>Qbd (r:=(Ye r).map (λip=>(ip.1,ip.2,ops[ip.1]?))++HN ops R) (λx hx=>by
       rcases QX.1 hx with hx|hx
       .obtain⟨z,_,rfl⟩:=Z2.1 hx;rfl
       .obtain⟨z,_,rfl⟩:=Z2.1 hx;rfl) (Qmy hp) x hx
      have held:MI ops done i oj.after.toList=true->False:=λh1=>by
       obtain⟨e,he,hb,xv,DL⟩:=Qbc h1;have h2:=((I.marks.get' e.on).1 (Kj e (by simpa using he) hb)).1;rcases QX.1 h2 with h3|h3
       .rcases DL with h4|h4
        .rw[DJ _ h3]at h4;cases h4
        .exact hni (QX.2 (.inl (by rw[<- h4];exact h3)))
       .exact xv h3
      have aX:j ∉ R:=λh=>by
       rcases Qbn (j,false,ops[j]?) (QX.2 (.inr (Z2.2 ⟨j,h,rfl⟩))) oj KM with h1|h1
       .have h9:Wg ops j=true:=h1;rw[(I.MJ j h).2.2]at h9;cases h9
       .exact held h1
      obtain⟨y,ze,jA⟩:=Z2.1 ((Rg.resolve_right aX).resolve_left kU);obtain⟨j',pj,qj⟩:=y;obtain rfl:j'=j:=jA;have hqj:qj=none:=by
       cases qj with
       | none=>rfl
       | some b=>exact absurd (QX.2 (.inl (HO.2 ⟨pj,b,JR _ ze⟩))) Rf
      subst hqj;have Qhc:Wg ops j'=true:=by
       rcases Qbn (j',pj,ops[j']?) (QX.2 (.inl (Z2.2 ⟨(j',pj),Z2.2 ⟨_,ze,rfl⟩,rfl⟩))) oj KM with h1|h1
       .exact h1
       .exact(held h1).elim
      obtain⟨g1,g2,_⟩:=aS KM Qhc;obtain⟨⟨ob,mk,obj,val,k1,_⟩,d,hd⟩:=hL j' oj KM Qhc;obtain⟨r1,r2,hr⟩:=List.append_of_mem ze;have hl:(i,p,none)::r=((i,p,none)::r1)++(j',pj,none)::r2:=by rw[hr];rfl
      have I0:=I;rw[hl]at I0;obtain⟨Z',I'⟩:=I0.exec hD Q1 KM Qhc hd (k1 a.eval w) (λi' p' q' hm hq e=>by
       subst e;rw[<- hl]at hm;cases q' with
       | none=>exact hq rfl
       | some b=>exact Rf (QX.2 (.inl (HO.2 ⟨p',b,hm⟩))))
      have hc:Yf r=Yf (((i,p,none)::r1)++(j',pj,some w.heap.size)::r2):=by
       have:=l7 (j:=j') (p:=pj) (b:=w.heap.size) (l2:=r2) ((i,p,none)::r1);rw[<- hl]at this;simp only[Yf]at this;omega
      have mu:Ye (((i,p,none)::r1)++(j',pj,some w.heap.size)::r2)=Ye ((i,p,none)::r):=by rw[hl];simp[Ye]
      have aZ:=ih _ done (Zm.setIfInBounds j' true) s pl (a.put oj.dst (val w.heap.size)) (w.alloc obj) Z' (by
       have h1:(((i,p,none)::r1)++(j',pj,some w.heap.size)::r2).length=r.length+1:=by rw[hr];simp
       have h2:r.length+1+(Yf r+1)<=m+1:=hm;rw[h1,<- hc];omega) I' (λk=>by rw[Rc k];rw[hl];simp[Xj]) (by rw[mu,vX];exact h)
      rw[<- hc]at aZ;unfold wpOp;simp only[KM];have hw:Region.wanted oj (yielded ops a.tmps)=true:=by simp[Region.wanted,g2]
      rw[Qd hw];refine .inl ?_;unfold Oper.wp;rw[k1 a.eval w];simp only[Oper.upon_value];exact⟨by rw[HM KM];exact .ext λk hk=>vP w obj k hk,aZ⟩
    have skip:∀(s1:St),s1.h=s.h->Rel Z base nt s1 pl a w->(∀d,get s.fr d=.undef->get s1.fr d=.undef)->W3 (guardOf ops o) a.tmps=false->Zk nt (Yz (KS i nc) o).dst=true->AX P base nt w0 (DK nc P base nt w0 ops K R.length R D0) (K8 nc ops (Ye r)) ⟨Za s1.fr (Yz (KS i nc) o).dst (.raw Go.undef),s1.h⟩ ->
      yA P ops (λa w=>∃s pl,K s/\Rel Z0 base nt s pl a w/\KX Z0 base w0 s.h pl w) (vW nc ops) (R.length+Yf r+1) Zm a w:=by
     intro s1 hh r1 hu hw ht hk;have hy:YieldsIf P ops (λw'=>(still L o=true\/Ext w w')\/(B6 o=true/\zM w w')) o Go.undef a:=.inr ⟨by rw[My];exact hw,rfl⟩;have Jy:Rel Z base nt ⟨Za s1.fr o.dst (.raw Go.undef),s1.h⟩ pl (a.put o.dst Go.undef) w:=r1.skip ht;have xw:∀d,o.dst≠some d->get s.fr d=.undef->get (Za s1.fr o.dst (.raw Go.undef)) d=.undef:=λd hd h=>by rw[aQ hd];exact hu d h
     cases p with
     | true=>exact first rfl ⟨Za s1.fr o.dst (.raw Go.undef),s1.h⟩ Go.undef hh hy Jy xw hk
     | false=>
      refine alone rfl (hy.wpOp ho (.inl (.inr (Ext.refl _))) ⟨by rw[HM ho];exact .ext (Ext.refl _),?_⟩);have I':=I.next hD ho Go.undef (s':=⟨Za s1.fr o.dst (.raw Go.undef),s1.h⟩) (by rw[show (⟨Za s1.fr o.dst (.raw Go.undef),s1.h⟩:St).h=s.h from hh];exact Tr.refl _ _ _) Jy (by rw[show (⟨Za s1.fr o.dst (.raw Go.undef),s1.h⟩:St).h=s.h from hh];exact I.since) xw;exact ih r (i::done) _ _ pl _ w Z Mp I' aY hk
    have go:∀(s1:St),s1.h=s.h->Rel Z base nt s1 pl a w->(∀d,get s.fr d=.undef->get s1.fr d=.undef)->W3 (guardOf ops o) a.tmps=true->W6 P base nt w0 p (Yz (KS i nc) o) (AX P base nt w0 (DK nc P base nt w0 ops K R.length R D0) (K8 nc ops (Ye r))) s1 ->
      yA P ops (λa w=>∃s pl,K s/\Rel Z0 base nt s pl a w/\KX Z0 base w0 s.h pl w) (vW nc ops) (R.length+Yf r+1) Zm a w:=by
     intro s1 hh r1 hu hw hk;cases p with
     | true=>
      obtain⟨d,UY,Rh,ht,hk⟩:=hk;have Kj:∃v,QC Z s1.h pl w d v/\(∀w':World,(∀b,b<w.heap.size->w'.heap[b]? = w.heap[b]?)->(execOp a.eval o).run P w'=.ok (.value v) w')/\(B6 o=true->∀w':World,zM w w'->(execOp a.eval o).run P w'=.ok (.value v) w'):=by
       cases Ri:B6 o
       .obtain⟨v,hv,Ze⟩:=UY Z pl a w r1;exact⟨v,hv,Ze,λh=>by cases h⟩
       .obtain⟨v,hv,Ze⟩:=Rh (by simpa[B6,Yz] using Ri) Z pl a w r1;exact⟨v,hv,λw' he=>Ze w' (.ext he),λ_=>Ze⟩
      obtain⟨v,hv,Ze,QmB⟩:=Kj;have hy:YieldsIf P ops (λw'=>(still L o=true\/Ext w w')\/(B6 o=true/\zM w w')) o v a:=.inl ⟨by rw[My];exact hw,λw' he=>he.elim (λhe=>he.elim (λhs=>Qmi Qmw hs (Ze w λ_ _=>rfl) w') (λhe=>Ze w' he)) (λhe=>QmB he.1 w' he.2)⟩;have r2:Rel Z base nt ⟨Za s1.fr o.dst d,s1.h⟩ pl (a.put o.dst v) w:=by
       cases hd:o.dst with
       | none=>exact r1
       | some t=>have ht:Zk nt o.dst=true:=ht;rw[hd]at ht;exact r1.to (Tr.ext r1.o λ_ _=>rfl) r1.o (jE ht) hv
      exact first rfl ⟨Za s1.fr o.dst d,s1.h⟩ v hh hy r2 (λd' hd h=>by rw[aQ hd];exact hu d' h) hk
     | false=>
      refine alone rfl ?_;unfold wpOp;simp only[ho,My,hw,Vs];refine .inl ?_;have:=hk.ae Q1 Z trivial pl a w r1 (by rw[hh];exact I.since);rw[Qbb]at this;refine Oper.wp_mono (λa' w' hq=>?_) this;obtain⟨he,d,h',Qi,v,hF,r',b',T,rfl⟩:=hq;refine⟨by rw[HM ho];exact he,?_⟩;have I':=I.next hD ho v (s':=⟨Za s1.fr o.dst d,h'⟩) (by rw[hh]at T;exact T) r' b' (λd' hd h=>by rw[aQ hd];exact hu d' h);exact ih r (i::done) _ _ Qi _ w' Z Mp I' aY hF
    show yA P ops _ (vW nc ops) (R.length+Yf r+1) Zm a w;simp only[AX]at h;split at h
    .rename_i hg;exact go s rfl I.rel (λ_ h=>h) (by rw[hg];rfl) h
    .rename_i x hg;exact skip s rfl I.rel (λ_ h=>h) (by rw[hg];rfl) h.1 h.2
    .rename_i t x hg;split at h
     .rename_i y hy;have hr:=I.rel.fr t;rw[hy]at hr;have hv:=Jn hr;have hb:=lT hv;have AT:∀(e:D) d,get s.fr d=.undef->get (put s.fr t e) d=.undef:=λe d h=>by
       rw[Fs,Qc (λe=>by rw[e,hy]at h;cases h)];exact h
      by_cases kH:y=x
      .refine go ⟨put s.fr t (.raw (.bool x)),s.h⟩ rfl (I.rel.tell (t:=t) (d:=.raw (.bool x)) (by rw[hv,kH];exact .cl _ _ (.raw _))) (AT _) ?_ (h.1 kH);rw[hg];simp[W3,hb,kH]
      .have FM:y=(!x):=by cases x<;>cases y<;>simp_all
       have:=h.2 FM;refine skip ⟨put s.fr t (.raw (.bool !x)),s.h⟩ rfl (I.rel.tell (t:=t) (d:=.raw (.bool (!x))) (by rw[hv,FM];exact .cl _ _ (.raw _))) (AT _) ?_ this.1 this.2;rw[hg];simp[W3,hb,kH]
     .rename_i vs hy;have hr:=I.rel.fr t;rw[hy]at hr;refine skip s rfl I.rel (λ_ h=>h) ?_ h.1 h.2;rw[hg];simp[W3,lU (Jn hr)]
     .exact h.elim
def Qbo:Option Nat->Option Nat->Bool
 | some a,some b=>!Nat.beq a b
 | _,_=>true
def Qbp(ops:Array Oper):Bool:=(List.range ops.size).all λi=>!Wg ops i || (List.range ops.size).all λj=>Nat.beq i j || Qbo ((ops[i]?).bind (·.dst)) ((ops[j]?).bind (·.dst))
def Qbq:D->Bool
 | .undef=>true
 | _=>false
def AY(ops:Array Oper)(fr:List (Nat × D)):Bool:=(List.range ops.size).all λi=>!Wg ops i || (match (ops[i]?).bind (·.dst) with|some d=>Qbq (get fr d)|none=>true)
def Qbr(L:Z8)(ops:Array Oper):Bool:=ops.toList.all λo=>match o.op with
 | .alloc t=>(ty L t).isSome&&o.dst.isSome
 | .makeMap _ none=>o.dst.isSome
 | _=>true
def bc(ops:Array Oper)(l:List (Nat × Bool)):List Nat->Bool
 | []=>true
 | i::r=>!KS i r&&!KS i (l.map (·.1))&&!Wg ops i&&bc ops l r
def Qgw{ops}{l:List (Nat × Bool)}:∀{R:List Nat},bc ops l R=true->R.Nodup/\∀i∈R,i ∉ l.map (·.1)/\Wg ops i=false
 | [],_=>⟨List.nodup_nil,σ⟩
 | i::r,h=>by
  simp only[bc,Zy,qB]at h;obtain⟨⟨⟨h1,h2⟩,h3⟩,h4⟩:=h;obtain⟨k1,k2⟩:=Qgw h4;refine⟨Zz.2 ⟨λhm=>(by rw[vV.2 hm]at h1;cases h1),k1⟩,λj hj=>?_⟩;rcases QD.1 hj with rfl|hj
  .exact⟨λhm=>(by rw[vV.2 hm]at h2;cases h2),h3⟩
  .exact k2 j hj
def B9(nc:List Nat)(L:Z8)(ops:Array Oper)(l:List (Nat × Bool))(R:List Nat):Bool:=Region.noSelect ops&&Nat.beq (R.length+l.length) ops.size&&aN (l.map (·.1)++R) ops.size&&DH nc L ops R (l.map λip=>(ip.1,ip.2,ops[ip.1]?)) []&&Qbp ops&&Qbr L ops&&bc ops l R&&yB ops R (l.map (·.1))
def bg(L:Z8)(ops:Array Oper)(l:List (Nat × Bool)):Bool:=B9 [] L ops l []
def QmC{ops}(h:Qbp ops=true):Rb ops:=by
 intro i j oi oj d K7 hl hi hj hd hd';have h1:=XK.1 h i (Pj.2 (Ws.1 hi).1);rw[hl,Ap,LU]at h1;have h2:=XK.1 h1 j (Pj.2 (Ws.1 hj).1);simp only[hi,hj,Ux,hd,hd',Qbo,L7,Ap,Bool.or_false,Wa]at h2;exact K7 h2
def QmD{ops:Array Oper}{fr}(h:AY ops fr=true):∀i o d,Wg ops i=true->ops[i]? = some o->o.dst=some d->get fr d=.undef:=by
 intro i o d hl hi hd;have h1:=XK.1 h i (Pj.2 (Ws.1 hi).1);rw[hl]at h1;simp only[Ap,LU,hi,Ux,hd]at h1;unfold Qbq at h1;split at h1
 .assumption
 .cases h1
def QmE{P}{L}(hL:Z5 P L){ops:Array Oper}(h:Qbr L ops=true):∀j o,ops[j]? = some o->Wg ops j=true->(∃ob mk,FV P o ob mk)/\∃d,o.dst=some d:=by
 intro j o hj hl;have h1:=(aS hj hl).1;have hm:o∈ops.toList:=by have:=Array.mem_of_getElem? hj;simpa using this
 have h2:=XK.1 h o hm;unfold qK at h1;cases ho:o.op<;>rw[ho]at h1 h2<;>first|cases h1|skip
 .rename_i t;simp only[Zy]at h2;obtain⟨y,hy⟩:=As.1 h2.1;exact⟨⟨_,_,Qa9 hL ho hy⟩,As.1 h2.2⟩
 .rename_i t rz;cases rz with
  | some x=>cases h1
  | none=>exact⟨⟨_,_,Qba ho .i64⟩,As.1 h2⟩
def Qbs{L}{ops:Array Oper}{R}:∀{l:List (Nat × Bool)} {done:List Nat},DH nc L ops R (l.map λip=>(ip.1,ip.2,ops[ip.1]?)) done=true->∀i p,(i,p)∈l->Wg ops i=true->p=false
 | [],_,_,_,_,h,_=>by cases h
 | (j,q)::r,done,h,i,p,hm,hl=>by
  simp only[JQ]at h;cases ho:ops[j]? with
  | none=>rw[ho]at h;cases h
  | some o=>
   rw[ho]at h;simp only[DH,Zy,qB]at h;rcases QD.1 hm with h1|h1
   .cases h1;cases q with
    | false=>rfl
    | true=>have:=h.1.2;simp only[Zy,qB,hl]at this;cases this.1
   .exact Qbs h.2 i p h1 hl
def AZ(l:List (Nat × Bool)):List En:=l.map λx=>(x.1,x.2,none)
def mv:∀l:List (Nat × Bool),Ye (AZ l)=l
 | []=>rfl
 | x::r=>congrArg (x::·) (mv r)
def Qbt:∀l,early (AZ l)=[]
 | []=>rfl
 | (_,_)::r=>Qbt r
def mw:∀l,blocks (AZ l)=[]
 | []=>rfl
 | (_,_)::r=>mw r
def Qbu:∀l,Yf (AZ l)=l.length
 | []=>rfl
 | (_,_)::r=>by show Yf (AZ r)+1=_;rw[Qbu r];rfl
def bk{l}{i}{p}{q}(h:(i,p,q)∈AZ l):(i,p)∈l/\q=none:=by
 obtain⟨x,hx,e⟩:=Z2.1 h;cases e;exact⟨hx,rfl⟩
def Qbv{L}(hL:Z5 P L)(Q1:base<=w0.w.heap.size){id}{ops}{Q}{s:St}(hm:P.follows .mixedOrders=true)(l:List (Nat × Bool))(R:List Nat)(hB:B9 nc L ops l R=true)(hU:AY ops s.fr=true)(h:AX P base nt w0 (DK nc P base nt w0 ops (λs=>Q .normal s) R.length R (l.map (·.1))) (K8 nc ops l) s):A P base nt w0 (.region id ops true) Q s:=by
 intro Z z pl a w r b;simp only[B9,Zy]at hB;obtain⟨⟨⟨⟨⟨⟨⟨b1,b2⟩,b3⟩,b4⟩,b5⟩,b6⟩,b7⟩,b8⟩:=hB;obtain⟨c1,c2⟩:=Qgw b7;have hlen:=Pt b2;have M:Marks ops (Array.replicate ops.size false) []:=⟨σ,λj hj=>by simp[hj],λj=>by
  rcases w9 j ops.size with h'|h'
  .simp[h']
  .simp[h'],λj hj=>by cases hj⟩
 have b':KX Z base w0 s.h pl { w with drawn:=w.drawn+1 }:=⟨⟨b.1.os,b.1.tape,b.1.output,b.1.size,b.1.block⟩,⟨b.2.1.J3,b.2.1.obj,b.2.1.shape⟩,⟨b.2.2.new,b.2.2.own⟩⟩;have I:xu nc P L ops R base nt w0 Z Z (AZ l) [] (Array.replicate ops.size false) s pl a { w with drawn:=w.drawn+1 }:=by
  refine⟨by rw[mv];exact b4,λj hj _=>?_,λj hj=>⟨σ,by have:=(c2 j hj).1;simpa[Xj,AZ] using this,(c2 j hj).2⟩,by rw[Qbt];exact M,λi p b h=>?_,λi p q h hl=>Qbs b4 i p (bk h).1 hl,λb=>by rw[mw];simp,λi p b h=>?_,by rw[mw];exact List.nodup_nil,λi p q h hl o d ho hd=>QmD hU i o d hl ho hd,r.ext λ_ _=>rfl,b',λi p b h=>?_⟩
  .have:=Qa6 b3 j hj;simpa[Xj,AZ] using this
  .cases (bk h).2
  .cases (bk h).2
  .cases (bk h).2
 have:=Qmv hL b1 Q1 (QmC b5) (QmE hL b6) c1 b8 _ (AZ l) [] _ s pl a _ Z (QB _) I (λj=>by simp[Xj,AZ]) (by rw[mv];exact h);rw[Qbu,hlen]at this;exact wp_region_any hm (aK (λa w hn=>hn) _ _ _ _ this)
def QmF{L}(hL:Z5 P L)(Q1:base<=w0.w.heap.size){id}{ops}{Q}{s:St}(hm:P.follows .mixedOrders=true)(l)(hB:bg L ops l=true)(hU:AY ops s.fr=true)(h:AX P base nt w0 (λs=>Q .normal s) (K8 [] ops l) s):A P base nt w0 (.region id ops true) Q s:=
 Qbv hL Q1 hm l [] hB hU h
def QmG{L}(hL:Z5 P L)(Q1:base<=w0.w.heap.size){id}{ops}{Q}{k}{s:St}(hm:P.follows .mixedOrders=true)(l)(hB:bg L ops l=true)(hU:AY ops s.fr=true)(h:AX P base nt w0 (λs=>Qv P base nt w0 Q k .normal s) (K8 [] ops l) s):Qv P base nt w0 Q (.code (.region id ops true)::k) .normal s:=by
 simp only[Qv];exact QmF hL Q1 hm l hB hU h
def Qbw{L}(hL:Z5 P L)(Q1:base<=w0.w.heap.size){id}{ops}{Q}{k}{s:St}(hm:P.follows .mixedOrders=true)(l:List (Nat × Bool))(R:List Nat)(hB:B9 nc L ops l R=true)(hU:AY ops s.fr=true)(h:AX P base nt w0 (DK nc P base nt w0 ops (λs=>Qv P base nt w0 Q k .normal s) R.length R (l.map (·.1))) (K8 nc ops l) s):Qv P base nt w0 Q (.code (.region id ops true)::k) .normal s:=by
 simp only[Qv];exact Qbv hL Q1 hm l R hB hU h
end
section
variable (P:Program)(base:Nat)(w0:Start)(X:Cx)(nt:Nat)
def HT(pu:Bool)(o:Oper)(F:St->Prop)(stop:Prop)(s:St):Prop:=match xq X s o.op with
 | some (p,d)=>p/\Zk nt o.dst=true/\F ⟨Za s.fr o.dst d,s.h⟩
 | none=>match pu with
  | true=>False
  | false=>match yy X s o.op with
   | some (p,h,d)=>p/\Zk nt o.dst=true/\F ⟨Za s.fr o.dst d,h⟩
   | none=>stop
def yC(K:St->Prop):List (Bool × Oper × G)->St->Prop
 | [],s=>K s
 | (pu,o,g)::r,s=>match g with
  | none=>HT X nt pu o (yC K r) (AX P base nt w0 K ((pu,o,none)::r) s) s
  | some (none,_)=>Zk nt o.dst=true/\yC K r ⟨Za s.fr o.dst (.raw Go.undef),s.h⟩
  | some (some t,b)=>match get s.fr t with
   | .raw (.bool x)=>(DB b x=true->HT X nt pu o (yC K r) (AX P base nt w0 K ((pu,o,none)::r) ⟨put s.fr t (.raw (.bool b)),s.h⟩) ⟨put s.fr t (.raw (.bool b)),s.h⟩) /\
     (DB b x=false->Zk nt o.dst=true/\yC K r ⟨Za (put s.fr t (.raw (.bool (!b)))) o.dst (.raw Go.undef),s.h⟩)
   | .raw (.tuple _)=>Zk nt o.dst=true/\yC K r ⟨Za s.fr o.dst (.raw Go.undef),s.h⟩
   | _=>False
end
section
variable {nc:List Nat}{P:Program}{base nt:Nat}{w0:Start}
def QmH{X}(hX:qH P X)(Q1:base<=w0.w.heap.size){pu}{o}{F F'}{stop}{s}(hF:∀s,F s->F' s)(QmI:stop->W6 P base nt w0 pu o F' s)(h:HT X nt pu o F stop s):W6 P base nt w0 pu o F' s:=by
 unfold HT at h;split at h
 .rename_i p d hp;have ok:=QaS (P:=P) (base:=base) (nt:=nt) hX hp h.1;have hk:=hF _ h.2.2;cases pu with
  | true=>
   refine⟨d,ok,λRi=>?_,h.2.1,hk⟩;unfold B6 at Ri;split at Ri
   .rename_i t x ho;simp only[xq,ho]at hp;exact Qkh hX.L ho hp h.1
   .cases Ri
  | false=>
   have hl:qK o=false:=by
    cases hl:qK o with
    | false=>rfl
    | true=>
     unfold qK at hl;cases ho:o.op<;>rw[ho]at hl<;>first|cases hl|skip
     all_goals
      rw[ho]at hp;simp[xq]at hp
   simp only[W6,hl];intro Z z pl a w r b;obtain⟨v,hv,Ze⟩:=ok Z pl a w r;unfold Oper.wp;rw[Ze w λ_ _=>rfl];simp only[Oper.upon_value];refine⟨.ext (Ext.refl _),_,_,pl,v,hk,?_,b,Tr.refl _ _ _,rfl⟩;cases hd:o.dst with
   | none=>exact r
   | some t=>have ht:=h.2.1;rw[hd]at ht;exact r.to (Tr.ext r.o λ_ _=>rfl) r.o (jE ht) hv
 .split at h
  .exact h.elim
  .split at h
   .rename_i p h' d hp;have ok:=QaT (P:=P) (base:=base) (nt:=nt) hX hp h.1;have hk:=hF _ h.2.2;have ht:=h.2.1;cases hl:qK o with
    | true=>
     unfold qK at hl;cases ho:o.op<;>rw[ho]at hl<;>first|cases hl|skip
     .rename_i t;simp only[ho,yy]at hp;split at hp
      .rename_i y hy;simp only[QY,Q9]at hp;obtain⟨_,rfl,rfl⟩:=hp;have hl:qK o=true:=by simp[qK,ho]
       simp only[W6,hl];exact⟨_,_,Qa9 hX.L ho hy,ht,hk⟩
      .cases hp
     .rename_i t rz;cases rz with
      | some x=>cases hl
      | none=>
       simp only[ho,yy]at hp;have hq:∃q,h'=s.h++[QK q 0 []]/\d=.mref s.h.length 0:=by
        unfold Mu at hp;split at hp
        .split at hp;all_goals
          simp only[QY,Q9]at hp;obtain⟨_,rfl,rfl⟩:=hp;exact⟨_,rfl,rfl⟩
        .cases hp
       obtain⟨q,rfl,rfl⟩:=hq;have hl:qK o=true:=by simp[qK,ho]
       simp only[W6,hl];exact⟨_,_,Qba ho q,ht,hk⟩
    | false=>
    simp only[W6,hl];intro Z z pl a w r b;have Qbx:B7 o=false:=by
     cases hi:B7 o with
     | false=>rfl
     | true=>
      unfold B7 at hi;split at hi
      .rename_i ho;simp[yy,ho]at hp
      .cases hi
    obtain⟨v,w',Qi,Ze,hT,hO,hv,hb,HL⟩:=ok Z pl a w r (Ki Q1 b.1.size);have fin:∀u,u=v->Rel Z base nt ⟨Za s.fr o.dst d,h'⟩ Qi (a.put o.dst u) w':=by
     rintro u rfl;cases hd:o.dst with
     | none=>exact r.ym hT hO u
     | some t=>rw[hd]at ht;exact r.to hT hO (jE ht) hv
    unfold Oper.wp;rcases Ze with Ze|⟨Ze,hu⟩
    .rw[Ze];simp only[Oper.upon_value];exact⟨.mk (λhc=>HL (by simp only[DG,Zy]at hc;exact hc.1)) Qbx,_,_,Qi,_,hk,fin v rfl,b.step hT hb,hT,rfl⟩
    .rw[Ze];simp only[Oper.upon_skip];exact⟨.mk (λhc=>HL (by simp only[DG,Zy]at hc;exact hc.1)) Qbx,_,_,Qi,_,hk,fin _ hu.symm,b.step hT hb,hT,rfl⟩
   .exact QmI h
def DM{X}(hX:qH P X)(Q1:base<=w0.w.heap.size){K}:∀(l:List (Bool × Oper × G)) (s:St),yC P base w0 X nt K l s->AX P base nt w0 K l s
 | [],s,h=>h
 | (pu,o,g)::r,s,h=>by
  have st:∀s,HT X nt pu o (yC P base w0 X nt K r) (AX P base nt w0 K ((pu,o,none)::r) s) s->W6 P base nt w0 pu o (AX P base nt w0 K r) s:=λs hh=>
   QmH hX Q1 (λs=>DM hX Q1 r s) (λh=>h) hh
  simp only[yC]at h;simp only[AX];split at h
  .exact st s h
  .exact⟨h.1,DM hX Q1 r _ h.2⟩
  .rename_i t b;split at h
   .rename_i x hx;simp only[QaU,jr,zL,ne_eq]at h;refine⟨λe=>st _ (h.1 e),λe=>?_⟩;have:=h.2 (by rw[e];cases b<;>simp);exact⟨this.1,DM hX Q1 r _ this.2⟩
   .exact⟨h.1,DM hX Q1 r _ h.2⟩
   .exact h.elim
def XC(d':D):D->Prop
 | .imm z n r=>match d' with
  | .imm z' n' r'=>z'=z/\n'=n/\∀i,i<n->r' i=r i
  | _=>False
 | .raw v=>d'=.raw v
 | .nil=>d'=.nil
 | .undef=>d'=.undef
 | .ip c=>d'=.ip c
 | .ref l g o n=>d'=.ref l g o n
 | .ptr l g i j=>d'=.ptr l g i j
 | .mref l g=>d'=.mref l g
 | .clo f n c=>d'=.clo f n c
 | .agg c=>d'=.agg c
 | .tup c=>d'=.tup c
def KA:List D->List D->Prop
 | [],[]=>True
 | d'::r',d::r=>XC d' d/\KA r' r
 | _,_=>False
def QmJ{N}{w}{d' d}{v}(h:XC d' d)(c:Cl N w d' v):Cl N w d v:=by
 cases d<;>simp only[XC]at h;case imm z n r=>
  split at h
  .obtain⟨rfl,rfl,h⟩:=h;cases c with
   | imm _ _ _ a cap b o vs ha hl hs hc hr=>
    exact .imm _ _ _ a cap b o vs ha hl (λi hi=>by rw[<- h i hi];exact hs i hi) hc (λi j hi hj=>by rw[<- h i hi];exact hr i j hi hj)
  .exact h.elim
 all_goals subst h;exact c
def Qby:∀{cs' cs:List D},KA cs' cs->cs'.length=cs.length/\∀i,i<cs.length->XC (nth cs' i) (nth cs i)
 | [],[],_=>⟨rfl,λi hi=>by simp at hi⟩
 | [],_::_,h=>h.elim
 | _::_,[],h=>h.elim
 | d'::r',d::r,h=>by
  obtain⟨h1,h2⟩:=Qby h.2;refine⟨by simp[h1],λi hi=>?_⟩;cases i with
  | zero=>exact h.1
  | succ i=>have:=h2 i (by simpa using hi);simpa[nth] using this
def QmK{Z}{h}{pl}{w}{d' d}{v}(e:XC d' d)(r:QC Z h pl w d' v):QC Z h pl w d v:=by
 cases d<;>simp only[XC]at e;case imm z n r0=>
  split at e
  .cases r with
   | cl _ _ hc=>exact .cl _ _ (QmJ (d:=.imm z n r0) (by simpa only[XC] using e) hc)
  .exact e.elim
 all_goals subst e;exact r
def QH.args{P}{f}{F}{cs' cs}{R}(h:QH P f F cs R)(e:KA cs' cs):QH P f F cs' R:=λZ base w pl vs h1 h2 h3 hl hc=>by
 obtain⟨e1,e2⟩:=Qby e;exact h Z base w pl vs h1 h2 h3 ω λi hi=>QmK (e2 i hi) (hc i ω)
def QW.args{P}{f}{cs' cs}{R}(h:QW P f cs R)(e:KA cs' cs):QW P f cs' R:=QH.args h e
def DN(Q1:base<=w0.w.heap.size){K}{dst}{ty:TypeId}{pos}{after}{gd}{r}{s}{x}{args}{Zl:Array TypeId}{f}{nf}{Qs}(hf:Qm P f)
  (hx:Jq (Qo s.fr x)=some (f,nf,Qs)) {cs:List D} (JF:match Yc (VU s.h 4) (ZT nf Qs (args.toList.map (Qo s.fr))) with|some (p,cs')=>p/\KA cs' cs|none=>False) {R:D->List Ob->Prop} (hF:QW P f cs R)
  (HG:∀d h,R d h->d.flat=true/\∀o∈h,o.flat) (ht:Zk nt dst=true) (hk:∀d h,R d h->AX P base nt w0 K r ⟨Za s.fr dst (d.shift s.h.length),s.h++h.map (Ob.shift s.h.length)⟩) :
  AX P base nt w0 K ((false,⟨dst,.call ⟨.value x,args,Zl⟩,ty,pos,after,gd⟩,none)::r) s:=by
 simp only[AX,W6,qK];intro Z z pl a w rr b;split at JF
 .rename_i p cs' hc;obtain⟨hp,he⟩:=JF;have hF:=hF.args he;refine Oper.wp_mono (λa' w' ⟨he,d,h,Qi,hR,r',b',T,v,e⟩=>⟨λ_=>he,_,_,Qi,v,hk d h hR,r',b',T,e⟩) (QaY Q1 hf rfl hx hc hp hF HG ht pl a w rr b _)
 .exact JF.elim
def KE(Q1:base<=w0.w.heap.size){Q}{k}{dst}{ty:TypeId}{pos}{after}{gd}{r}{s}{x}{args}{Zl:Array TypeId}{f}{nf}{Qs}(hf:Qm P f)
  (hx:Jq (Qo s.fr x)=some (f,nf,Qs)) {cs:List D} (JF:match Yc (VU s.h 4) (ZT nf Qs (args.toList.map (Qo s.fr))) with|some (p,cs')=>p/\KA cs' cs|none=>False) {R:D->List Ob->Prop} (hF:QW P f cs R)
  (HG:∀d h,R d h->d.flat=true/\∀o∈h,o.flat) (ht:Zk nt dst=true) (hk:∀d h,R d h->Qv P base nt w0 Q (.ops r::k) .normal ⟨Za s.fr dst (d.shift s.h.length),s.h++h.map (Ob.shift s.h.length)⟩) :
  Qv P base nt w0 Q (.ops ((⟨dst,.call ⟨.value x,args,Zl⟩,ty,pos,after,gd⟩,none)::r)::k) .normal s:=by
 simp only[Qv]at hk ⊢;split at JF
 .rename_i p cs' hc;obtain⟨hp,he⟩:=JF;have hF:=hF.args he;exact Ql9 Q1 hf rfl hx hc hp hF HG ht hk
 .exact JF.elim
end
section
variable {nc:List Nat}{P:Program}{base nt:Nat}{w0:Start}
def W6.mono{pu}{o}{F F'}(hF:∀s,F s->F' s){s}(h:W6 P base nt w0 pu o F s):W6 P base nt w0 pu o F' s:=by
 cases pu with
 | true=>obtain⟨d,h1,h2,h3,h4⟩:=h;exact⟨d,h1,h2,h3,hF _ h4⟩
 | false=>
  simp only[W6]at h ⊢;split at h
  .obtain⟨ob,mk,h1,h2,h3⟩:=h;exact⟨ob,mk,h1,h2,hF _ h3⟩
  intro Z z pl a w r b;exact Oper.wp_mono (λa' w' ⟨he,d,h',Qi,v,h1,h2⟩=>⟨he,d,h',Qi,v,hF _ h1,h2⟩) (h Z z pl a w r b)
def AX.mono{K K'}(hK:∀s,K s->K' s):∀(l:List (Bool × Oper × G)) (s:St),AX P base nt w0 K l s->AX P base nt w0 K' l s
 | [],s,h=>hK s h
 | (pu,o,g)::r,s,h=>by
  simp only[AX]at h ⊢;split at h
  .exact W6.mono (AX.mono hK r) h
  .exact⟨h.1,AX.mono hK r _ h.2⟩
  .split at h
   .exact⟨λe=>W6.mono (AX.mono hK r) (h.1 e),λe=>⟨(h.2 e).1,AX.mono hK r _ (h.2 e).2⟩⟩
   .exact⟨h.1,AX.mono hK r _ h.2⟩
   .exact h.elim
end
end Go.Fg
namespace Go.Fg
attribute [go_sem_proc] reduceIte reduceDIte dreduceIte dreduceDIte reduceCtorEq List.reduceReplicate Nat.reduceAdd Nat.reduceSub Nat.reduceMul Nat.reduceBEq Nat.reduceLT Nat.reduceGT Nat.reduceLeDiff Nat.reduceEqDiff Nat.reduceBneDiff Nat.reduceBeqDiff Nat.reduceSubDiff Nat.reduceBNe Nat.reduceDiv Nat.reduceMod Nat.reduceSucc Nat.reducePow Nat.reduceDvd Int.reduceToNat Int.reduceLE Int.reduceLT Int.reduceGT Int.reduceGE Int.reduceEq Int.reduceNe Int.reduceAdd Int.reduceSub Int.reduceMul Int.reduceNeg Int.reduceDiv Int.reduceMod Int.reducePow Int.reduceBEq Int.reduceBNe Int.reduceOfNat Int.reduceNegSucc Int.reduceNatCast Int.reduceNatCast' Int.reduceAbs Int.reduceDvd
def KY{α:Sort _}{a b:α}(h:a=b):a=b:=h
@[go_sem] theorem QCy(a b:Nat):Nat.beq a b=(a==b):=by
 rw[vG];simp[Wa]
@[go_sem] theorem QmL(a b):Nat.blt a b=decide (a<b):=by
 rw[vG];simp[vL]
@[go_sem] theorem Rj(a b:Nat):Nat.ble a b=decide (a<=b):=by
 rw[vG];simp[Nat.ble_eq]
def hx(P:Program)(base:Nat)(w0:Start)(Q:Exit->St->Prop)(X:Cx)(nt n:Nat)(k:List Item)(s:St):Prop:=(exec X nt n k s).holds P base nt w0 Q
def hz(P:Program)(base:Nat)(w0:Start)(Q:Exit->St->Prop)(X:Cx)(nt n:Nat)(k:List Item)(s:St):Prop:=hx P base w0 Q X nt n k s
def Wx(b:Bool)(A B:Prop):Prop:=(b=true->A)/\(b=false->B)
def ZM(b:Bool)(A:Prop):Prop:=b=true/\A
section
variable {P:Program}{base:Nat}{w0:Start}{Q:Exit->St->Prop}{X:Cx}{nt n:Nat}{k:List Item}{s:St}
@[go_sem ↓] theorem QCz{B}:Wx true (hz P base w0 Q X nt n k s) B=hx P base w0 Q X nt n k s:=by simp[Wx,hz]
@[go_sem ↓] theorem QCA{A}:Wx false A (hz P base w0 Q X nt n k s)=hx P base w0 Q X nt n k s:=by simp[Wx,hz]
def YA{b}{k'}{s'}(h1:b=true->hx P base w0 Q X nt n k s)(h2:b=false->hx P base w0 Q X nt n k' s'):Wx b (hz P base w0 Q X nt n k s) (hz P base w0 Q X nt n k' s'):=⟨h1,h2⟩
@[go_sem] theorem QCB:hx P base w0 Q X nt (n+1) [] s=Q .normal s:=KY rfl
@[go_sem] theorem QCC{id}:hx P base w0 Q X nt (n+1) (.inBlock id::k) s=hx P base w0 Q X nt n k s:=KY rfl
@[go_sem] theorem QCD:hx P base w0 Q X nt (n+1) (.code .skip::k) s=hx P base w0 Q X nt n k s:=KY rfl
@[go_sem] theorem QCE{l}:hx P base w0 Q X nt (n+1) (.code (.label l)::k) s=hx P base w0 Q X nt n k s:=KY rfl
@[go_sem] theorem QCF{a b}:hx P base w0 Q X nt (n+1) (.code (.seq a b)::k) s=hx P base w0 Q X nt n (.code a::.code b::k) s:=KY rfl
@[go_sem] theorem QCG{id}{c}:hx P base w0 Q X nt (n+1) (.code (.block id c)::k) s=hx P base w0 Q X nt n (.code c::.inBlock id::k) s:=KY rfl
@[go_sem] theorem QCH:hx P base w0 Q X nt (n+1) (.inScope::k) s=hx P base w0 Q X nt n k s:=KY rfl
@[go_sem] theorem QCI{c}:hx P base w0 Q X nt (n+1) (.code (.scope c)::k) s=hx P base w0 Q X nt n (.code c::.inScope::k) s:=KY rfl
@[go_sem] theorem QCJ{c}{a b}:hx P base w0 Q X nt (n+1) (.code (.cond c a b)::k) s=(match Qo s.fr c with
  | .raw (.bool x)=>Wx x (hz P base w0 Q X nt n (.code a::k) s) (hz P base w0 Q X nt n (.code b::k) s)
  | _=>False):=by
 simp only[hx,exec];generalize Qo s.fr c=d;cases d with
 | raw v=>cases v<;>rfl
 | _=>rfl
@[go_sem] theorem QCK{id}:hx P base w0 Q X nt (n+1) (.code (.exit id)::k) s=(match zS id k with
  | some k'=>hx P base w0 Q X nt n k' s
  | none=>Q (.exit id) s):=by
 simp only[hx,exec];generalize zS id k=r;cases r<;>rfl
@[go_sem] theorem QCL:hx P base w0 Q X nt (n+1) (.code .ret::k) s=Q .ret s:=KY rfl
@[go_sem] theorem QCM{id}{ops}:hx P base w0 Q X nt (n+1) (.code (.region id ops false)::k) s=hx P base w0 Q X nt n (.ops (AN ops)::k) s:=KY rfl
@[go_sem] theorem QCN{id}{ops}:hx P base w0 Q X nt (n+1) (.code (.region id ops true)::k) s=Qv P base nt w0 Q (.code (.region id ops true)::k) .normal s:=KY rfl
@[go_sem] theorem QCO{c}:hx P base w0 Q X nt (n+1) (.code (.loop c)::k) s=Qv P base nt w0 Q (.code (.loop c)::k) .normal s:=KY rfl
@[go_sem] theorem QCP:hx P base w0 Q X nt (n+1) (.ops []::k) s=hx P base w0 Q X nt n k s:=KY rfl
@[go_sem ↓] theorem QCQ{A}:ZM true A=A:=by simp[ZM]
@[go_sem] theorem QCR{o:Oper}{r}:hx P base w0 Q X nt (n+1) (.ops ((o,none)::r)::k) s=(match xq X s o.op with
  | some (p,d)=>p/\(match Zk nt o.dst with|true=>hx P base w0 Q X nt n (.ops r::k) ⟨Za s.fr o.dst d,s.h⟩|false=>False)
  | none=>match yy X s o.op with
   | some (p,h,d)=>p/\(match Zk nt o.dst with|true=>hx P base w0 Q X nt n (.ops r::k) ⟨Za s.fr o.dst d,h⟩|false=>False)
   | none=>Qv P base nt w0 Q (.ops ((o,none)::r)::k) .normal s):=by
 simp only[hx,exec];generalize xq X s o.op=r1;generalize yy X s o.op=r2;cases r1 with
 | some pd=>cases Zk nt o.dst<;>simp[Tree.holds]
 | none=>cases r2 with
  | some phd=>cases Zk nt o.dst<;>simp[Tree.holds]
  | none=>rfl
def Qbz{o:Oper}{t}{b}{r}(ht:Zk nt o.dst=true):hx P base w0 Q X nt (n+1) (.ops ((o,some (some t,b))::r)::k) s=(match get s.fr t with
  | .raw (.bool x)=>Wx (DB b x) (hz P base w0 Q X nt n (.ops ((o,none)::r)::k) ⟨put s.fr t (.raw (.bool b)),s.h⟩) (hz P base w0 Q X nt n (.ops r::k) ⟨Za (put s.fr t (.raw (.bool (!b)))) o.dst (.raw Go.undef),s.h⟩)
  | .raw (.tuple _)=>hx P base w0 Q X nt n (.ops r::k) ⟨Za s.fr o.dst (.raw Go.undef),s.h⟩
  | _=>False):=by
 simp only[hx,exec];generalize get s.fr t=d;cases d with
 | raw v=>
  cases v with
  | bool x=>simp[Wx,hz,hx,ht,Tree.holds]
  | tuple vs=>simp[ht]
  | _=>rfl
 | _=>rfl
@[go_sem] theorem QCS{o:Oper}{t}{r}(ht:Zk nt o.dst=true):hx P base w0 Q X nt (n+1) (.ops ((o,some (some t,true))::r)::k) s=(match get s.fr t with
  | .raw (.bool x)=>Wx x (hz P base w0 Q X nt n (.ops ((o,none)::r)::k) ⟨put s.fr t (.raw (.bool true)),s.h⟩) (hz P base w0 Q X nt n (.ops r::k) ⟨Za (put s.fr t (.raw (.bool false))) o.dst (.raw Go.undef),s.h⟩)
  | .raw (.tuple _)=>hx P base w0 Q X nt n (.ops r::k) ⟨Za s.fr o.dst (.raw Go.undef),s.h⟩
  | _=>False):=Qbz ht
@[go_sem] theorem QCT{o:Oper}{t}{r}(ht:Zk nt o.dst=true):hx P base w0 Q X nt (n+1) (.ops ((o,some (some t,false))::r)::k) s=(match get s.fr t with
  | .raw (.bool x)=>Wx x (hz P base w0 Q X nt n (.ops r::k) ⟨Za (put s.fr t (.raw (.bool true))) o.dst (.raw Go.undef),s.h⟩) (hz P base w0 Q X nt n (.ops ((o,none)::r)::k) ⟨put s.fr t (.raw (.bool false)),s.h⟩)
  | .raw (.tuple _)=>hx P base w0 Q X nt n (.ops r::k) ⟨Za s.fr o.dst (.raw Go.undef),s.h⟩
  | _=>False):=by
 rw[Qbz ht];generalize get s.fr t=d;cases d with
 | raw v=>
  cases v with
  | bool x=>cases x<;>simp[Wx,DB]
  | _=>rfl
 | _=>rfl
end
section
variable {P:Program}{base nt:Nat}{w0:Start}{Q:Exit->St->Prop}{k:List Item}{s:St}{I:Nat->St->Prop}{m:Nat}
@[go_sem] theorem QCU{e}:Qv P base nt w0 Q [] e s=Q e s:=KY rfl
@[go_sem] theorem QCV{x}:Qv P base nt w0 Q (x::k) .ret s=Qv P base nt w0 Q k .ret s:=by cases x<;>rfl
@[go_sem] theorem QCW{c}{j}:Qv P base nt w0 Q (.code c::k) (.exit j) s=Qv P base nt w0 Q k (.exit j) s:=KY rfl
@[go_sem] theorem QCX{l}{j}:Qv P base nt w0 Q (.ops l::k) (.exit j) s=Qv P base nt w0 Q k (.exit j) s:=KY rfl
@[go_sem] theorem QCY{id}:Qv P base nt w0 Q (.inBlock id::k) (.exit id) s=Qv P base nt w0 Q k .normal s:=by simp[Qv]
@[go_sem] theorem QCZ{id j}(h:(j==id)=false):Qv P base nt w0 Q (.inBlock id::k) (.exit j) s=Qv P base nt w0 Q k (.exit j) s:=by
 have:¬ j=id:=by simpa using h
 simp[Qv,this]
@[go_sem] theorem QC0{id}:Qv P base nt w0 Q (.inBlock id::k) .normal s=Qv P base nt w0 Q k .normal s:=KY rfl
@[go_sem] theorem QC1{j}:Qv P base nt w0 Q (.inScope::k) (.exit j) s=Qv P base nt w0 Q k (.exit j) s:=KY rfl
@[go_sem] theorem QC2:Qv P base nt w0 Q (.inScope::k) .normal s=Qv P base nt w0 Q k .normal s:=KY rfl
@[go_sem] theorem QC3:aG P base nt w0 Q k I m .normal s=∃m' s',m'<m/\Qz w0 s s'/\I m' s':=KY rfl
@[go_sem] theorem QC4{j}:aG P base nt w0 Q k I m (.exit j) s=Qv P base nt w0 Q k (.exit j) s:=KY rfl
@[go_sem] theorem QC5:aG P base nt w0 Q k I m .ret s=Qv P base nt w0 Q k .ret s:=KY rfl
end
attribute [go_sem] AN guardOf strip Qo get put Za Zk XO J4 xq yy zS DB
 UI UD UE UF UG Fu Fv UH iF IntKind.same Hq mk TK.agg Mj UJ UK Ml UL UM UN UO
 yo Ay setRow PI PK BY UZ Ms xm AH U0 jy U2 U6 Dy Hx cat jz qG nth D.there Kt iW
 ZT Yc VU Jq DC one AO D.shift xr Ob.shift jG D.qI D.flat DD D.upto AQ FQ FT AR yz MA Kd.Hl Kd.ty Kd.ro Kd.P6 Kd.toRo
attribute [go_sem] JQ List.map_nil List.getElem?_toArray List.getElem?_cons_zero List.getElem?_cons_succ List.getElem?_nil Ux Option.bind_none KK YV Kv List.length_nil YT zK JI
 List.all_cons List.all_nil List.take_zero List.take_succ_cons List.take_nil List.drop_zero List.drop_succ_cons List.drop_nil List.set_cons_zero List.set_cons_succ List.getD_cons_zero List.getD_cons_succ List.replicate_zero Ur List.flatten_cons List.flatten_nil
 js YW Ap Fh Bool.and_true O7 Bool.and_false O6 Bool.or_true Bool.true_or Bool.or_false LU Hj decide_true decide_false vO and_true false_and and_false
 implies_true forall_const reduceCtorEq List.toList_toArray Int.toNat_natCast Int.natCast_nonneg Int.ofNat_lt Int.ofNat_le Int.ofNat_inj JD BP QB Jh QY Q9
def HU{P}{base nt}{w0:Start}{Q}{X}(hX:qH P X)(hb:base<=w0.w.heap.size)(n){k}{s}(h:hx P base w0 Q X nt n k s):Qv P base nt w0 Q k .normal s:=jF hX hb n k s h
def bn{P:Program}{X}(hX:qH P X){f}{fn:Func}{c}(n)(hf:P.funcs[f]? = some fn)(hb:fn.body=some c){args:List D}{R}{nt}{rs}(qb:fn.ntmps=nt)(XR:fn.results=rs)(hn:Nat.ble args.length nt=true)
  (h:∀(base:Nat) (w:World),base<=w.heap.size->hx P base ⟨w,[],[]⟩ (AO X.L rs.toList R) X nt n [.code c] ⟨jG args 0,[]⟩):QW P f args R:=
 Qa3 hX n hf hb qb (Pu hn) (by
  subst XR;intro base w pl hb hl;cases pl with
  | nil=>exact h base w hb
  | cons _ _=>simp at hl)
def kV{P:Program}{X}(hX:qH P X){f}{fn:Func}{c}(n)(hf:P.funcs[f]? = some fn)(hb:fn.body=some c){F}{args:List D}{R}{nt}{rs}(qb:fn.ntmps=nt)(XR:fn.results=rs)(hn:Nat.ble args.length nt=true)
  (h:∀(base:Nat) (w:World) (pl:List Pl),base<=w.heap.size->hx P base ⟨w,F,pl⟩ (AO X.L rs.toList R) X nt n [.code c] ⟨jG args 0,F⟩):QH P f F args R:=
 Qa3 hX n hf hb qb (Pu hn) (by subst XR;exact λbase w pl hb _=>h base w pl hb)
def Zi.take{Z}{base}{h:List Ob}{pl:List Pl}{w}(R:Zi Z base h pl w)(k)(h2:AR k (h.take k)):Zi Z base (h.take k) (pl.take k) w:=by
 have Zh:∀(l:Nat) (p:Pl),(pl.take k)[l]? = some p->pl[l]? = some p:=λl p e=>by
  rw[Xw]at e;split at e
  .exact e
  .cases e
 have hh:∀(l:Nat) (o:Ob),(h.take k)[l]? = some o->h[l]? = some o:=λl o e=>by
  rw[Xw]at e;split at e
  .exact e
  .cases e
 refine⟨by simp[R.len],λl l' b q q' e1 e2=>R.inj l l' b q q' (Zh _ _ e1) (Zh _ _ e2),λl o ho hp=>R.VB l o (hh _ _ ho) (Zh _ _ hp),λl o b q ho hp=>?_⟩;obtain⟨g1,x⟩:=R.at_ l o b q (hh _ _ ho) (Zh _ _ hp);exact⟨g1,x.to rfl rfl rfl rfl (λ_ _=>rfl) λi j v hi hj hr=>hr.take (MB (lZ h2 l o ho i hi) j hj)⟩
def Kept(k:Nat)(R:D->List Ob->Prop)(d:D)(h:List Ob):Prop:=d.upto k=true/\AR k (h.take k)/\R d (h.take k)
def QmN{pl:List Pl}{k b}(h:W0 pl b):W0 (pl.take k) b:=λl q e=>by
 rw[Xw]at e;split at e
 .exact h l q e
 .cases e
def QH.take{P}{f}{F:List Ob}{args}{R}(k)(hk:F.length<=k)(h:QH P f F args (Kept k R)):QH P f F args R:=λZ base w pl vs h1 h2 h3 hl hc=>
 (h Z base w pl vs h1 h2 h3 hl hc).mono λ_ _ ⟨v,d,hh,Qi,k1,⟨a1,a2,a3⟩,k3,k4,k5,k6⟩=>⟨v,d,hh.take k,Qi.take k,k1,a3,k3.take k a2,k4.take a1,
  k5.keep hk ⟨λ_ hb=>QmN hb,λl o p hl ho hp=>⟨o,by rw[Xw,Qd hl];exact ho,by rw[Xw,Qd hl];exact hp,rfl,rfl,rfl⟩⟩,k6⟩
def QyO(k){P:Program}{X}(hX:qH P X){f}{fn:Func}{c}(n)(hf:P.funcs[f]? = some fn)(hb:fn.body=some c){args:List D}{R}{nt}{rs}(qb:fn.ntmps=nt)(XR:fn.results=rs)(hn:Nat.ble args.length nt=true)
  (h:∀(base:Nat) (w:World),base<=w.heap.size->hx P base ⟨w,[],[]⟩ (AO X.L rs.toList (Kept k R)) X nt n [.code c] ⟨jG args 0,[]⟩):QW P f args R:=
 QH.take k (Jh _) (bn hX n hf hb qb XR hn h)
attribute [go_sem] Kept
def QbA{k}:∀{h h':List Ob},yz h h'->AR k h'->AR k h
 | [],[],_,_=>trivial
 | [],_::_,h,_=>h.elim
 | _::_,[],h,_=>h.elim
 | _::_,_::_,h,h2=>⟨λi hi=>by rw[<- h.1.2.2.2.2 i hi];exact h2.1 i (by rw[h.1.2.2.1];exact hi),QbA h.2 h2.2⟩
def Wk.to{m}(k){fr fr'}{h h':List Ob}(hw:FQ fr fr'/\FT k fr'=true/\AR k h'/\yz (h.take k) h')(hm:m<=k:=by exact Pu rfl):Wk m ⟨fr,h⟩ ⟨fr',h'⟩:=
 Wk.trans (Wk.frame hw.1) (Wk.trans (Wk.drop k hm hw.2.1 (QbA hw.2.2.2 hw.2.2.1)) (Wk.FR hw.2.2.2))
def Qz.to{w0:Start}(k){fr fr'}{h h':List Ob}(hw:FQ fr fr'/\FT k fr'=true/\AR k h'/\yz (h.take k) h')(hm:w0.F.length<=k:=by exact Pu rfl):Qz w0 ⟨fr,h⟩ ⟨fr',h'⟩:=(Wk.to k hw hm).up
def Qz.frame{w0}{fr fr'}{h}(hf:FQ fr fr'):Qz w0 ⟨fr,h⟩ ⟨fr',h⟩:=(Wk.frame hf).up
def Qz.BS{w0}{fr}{h:List Ob}(t sz)(row)(ht:get fr t=.nil):Qz w0 ⟨fr,h⟩ ⟨put fr t (.ref h.length 0 0 0),h++[⟨.arr,0,sz,0,row⟩]⟩:=(Wk.BS t sz row ht).up
def Rl{α:Type}[Inhabited α](sz:Nat)(enc:α->List D)(l:List α)(d:D)(h:List Ob):Prop:=∃g,d=.ref 0 g 0 l.length/\h=[⟨.arr,g,sz,l.length,λi=>enc (l.getD i default)⟩]
def MO(P:Program)(base:Nat)(w0:Start)(Q:Exit->St->Prop)(X:Cx)(nt n:Nat)(k:List Item)(s:St):Prop:=hx P base w0 Q X nt n k s
def KU(P:Program)(base:Nat)(w0:Start)(X:Cx)(nt:Nat)(K:St->Prop)(l:List (Bool × Oper × G))(s:St):Prop:=yC P base w0 X nt K l s
def qL(P:Program)(base:Nat)(w0:Start)(X:Cx)(nt:Nat)(K:St->Prop)(l:List (Bool × Oper × G))(s:St):Prop:=KU P base w0 X nt K l s
section
variable {nc:List Nat}{P:Program}{base:Nat}{w0:Start}{Q:Exit->St->Prop}{X:Cx}{nt n:Nat}{k:List Item}{s:St}{l:List (Bool × Oper × G)}{K:St->Prop}
@[go_sem ↓] theorem QC6{B}:Wx true (qL P base w0 X nt K l s) B=KU P base w0 X nt K l s:=by simp[Wx,qL]
@[go_sem ↓] theorem QC7{A}:Wx false A (qL P base w0 X nt K l s)=KU P base w0 X nt K l s:=by simp[Wx,qL]
def FW{b}{l'}{s'}(h1:b=true->KU P base w0 X nt K l s)(h2:b=false->KU P base w0 X nt K l' s'):Wx b (qL P base w0 X nt K l s) (qL P base w0 X nt K l' s'):=⟨h1,h2⟩
@[go_sem] theorem QC8:KU P base w0 X nt K [] s=K s:=KY rfl
@[go_sem] theorem QC9:MO P base w0 Q X nt n k s=hx P base w0 Q X nt n k s:=KY rfl
@[go_sem] theorem QDa{o:Oper}{r}:KU P base w0 X nt K ((true,o,none)::r) s=(match xq X s o.op with
  | some (p,d)=>p/\(match Zk nt o.dst with|true=>KU P base w0 X nt K r ⟨Za s.fr o.dst d,s.h⟩|false=>False)
  | none=>False):=by
 simp only[KU,yC,HT];generalize xq X s o.op=r1;cases r1 with
 | some pd=>cases Zk nt o.dst<;>simp
 | none=>rfl
@[go_sem] theorem QDb{o:Oper}{r}:KU P base w0 X nt K ((false,o,none)::r) s=(match xq X s o.op with
  | some (p,d)=>p/\(match Zk nt o.dst with|true=>KU P base w0 X nt K r ⟨Za s.fr o.dst d,s.h⟩|false=>False)
  | none=>match yy X s o.op with
   | some (p,h,d)=>p/\(match Zk nt o.dst with|true=>KU P base w0 X nt K r ⟨Za s.fr o.dst d,h⟩|false=>False)
   | none=>AX P base nt w0 K ((false,o,none)::r) s):=by
 simp only[KU,yC,HT];generalize xq X s o.op=r1;generalize yy X s o.op=r2;cases r1 with
 | some pd=>cases Zk nt o.dst<;>simp
 | none=>cases r2 with
  | some phd=>cases Zk nt o.dst<;>simp
  | none=>rfl
def QbB{pu}{o:Oper}{t}{b}{r}(ht:Zk nt o.dst=true):KU P base w0 X nt K ((pu,o,some (some t,b))::r) s=(match get s.fr t with
  | .raw (.bool x)=>Wx (DB b x) (qL P base w0 X nt K ((pu,o,none)::r) ⟨put s.fr t (.raw (.bool b)),s.h⟩) (qL P base w0 X nt K r ⟨Za (put s.fr t (.raw (.bool (!b)))) o.dst (.raw Go.undef),s.h⟩)
  | .raw (.tuple _)=>KU P base w0 X nt K r ⟨Za s.fr o.dst (.raw Go.undef),s.h⟩
  | _=>False):=by
 simp only[KU,qL,yC];generalize get s.fr t=d;cases d with
 | raw v=>
  cases v with
  | bool x=>simp[Wx,ht]
  | tuple vs=>simp[ht]
  | _=>rfl
 | _=>rfl
@[go_sem] theorem QDc{pu}{o:Oper}{t}{r}(ht:Zk nt o.dst=true):KU P base w0 X nt K ((pu,o,some (some t,true))::r) s=(match get s.fr t with
  | .raw (.bool x)=>Wx x (qL P base w0 X nt K ((pu,o,none)::r) ⟨put s.fr t (.raw (.bool true)),s.h⟩) (qL P base w0 X nt K r ⟨Za (put s.fr t (.raw (.bool false))) o.dst (.raw Go.undef),s.h⟩)
  | .raw (.tuple _)=>KU P base w0 X nt K r ⟨Za s.fr o.dst (.raw Go.undef),s.h⟩
  | _=>False):=QbB ht
@[go_sem] theorem QDd{pu}{o:Oper}{t}{r}(ht:Zk nt o.dst=true):KU P base w0 X nt K ((pu,o,some (some t,false))::r) s=(match get s.fr t with
  | .raw (.bool x)=>Wx x (qL P base w0 X nt K r ⟨Za (put s.fr t (.raw (.bool true))) o.dst (.raw Go.undef),s.h⟩) (qL P base w0 X nt K ((pu,o,none)::r) ⟨put s.fr t (.raw (.bool false)),s.h⟩)
  | .raw (.tuple _)=>KU P base w0 X nt K r ⟨Za s.fr o.dst (.raw Go.undef),s.h⟩
  | _=>False):=by
 rw[QbB ht];generalize get s.fr t=d;cases d with
 | raw v=>
  cases v with
  | bool x=>cases x<;>simp[Wx,DB]
  | _=>rfl
 | _=>rfl
def KF{id}{ops}(hX:qH P X)(hb:base<=w0.w.heap.size)(n)(hm:P.follows .mixedOrders=true)(l)(hB:bg X.L ops l=true)(hU:AY ops s.fr=true)(h:KU P base w0 X nt (MO P base w0 Q X nt n k) (K8 [] ops l) s):Qv P base nt w0 Q (.code (.region id ops true)::k) .normal s:=
 QmG hX.L hb hm l hB hU (AX.mono (λs hs=>HU hX hb n hs) _ _ (DM hX hb _ _ h))
def QmO(hX:qH P X)(hb:base<=w0.w.heap.size)(h:KU P base w0 X nt K l s):AX P base nt w0 K l s:=DM hX hb _ _ h
abbrev HV:=Nat × Oper × G × List Nat
def HW:List Edge->List Nat
 | []=>[]
 | e::r=>bif Region.binds .any e then e.on::HW r else HW r
def zT(nc:List Nat)(ops:Array Oper):List Nat->List HV
 | []=>[]
 | i::r=>match ops[i]? with
  | some o=>(i,Yz (KS i nc) o,guardOf ops o,HW o.after.toList)::zT nc ops r
  | none=>zT nc ops r
def Ca(i:Nat):List HV->List HV
 | []=>[]
 | e::r=>bif Nat.beq e.1 i then Ca i r else e::Ca i r
def MP(done:List Nat):List Nat->Bool
 | []=>true
 | i::r=>KS i done&&MP done r
def Rm(F:HV->Prop):List HV->Prop
 | []=>True
 | e::r=>F e/\Rm F r
def DO(P:Program)(base:Nat)(w0:Start)(X:Cx)(nt:Nat)(K:St->Prop):Nat->List HV->List Nat->St->Prop
 | 0,_,_,s=>K s
 | m+1,es,done,s=>Rm (λe=>match MP done e.2.2.2 with
  | true=>KU P base w0 X nt (DO P base w0 X nt K m (Ca e.1 es) (e.1::done)) [(false,e.2.1,e.2.2.1)] s
  | false=>True) es
def mz{done}:∀{l:List Edge},jH done l=false->MP done (HW l)=true
 | [],_=>rfl
 | e::r,h=>by
  simp only[jH,LV,Hb,Bool.not_eq_false']at h;simp only[HW];cases hb:Region.binds .any e
  .exact mz h.2
  .simp only[js,MP,Zy];refine⟨h.1.resolve_left (by rw[hb];simp),mz h.2⟩
def QbC{F}:∀{l:List HV},Rm F l->∀e∈l,F e
 | [],_,e,he=>by cases he
 | x::r,h,e,he=>by
  rcases QD.1 he with rfl|he
  .exact h.1
  .exact QbC h.2 e he
def mA{ops:Array Oper}{i}{o:Oper}(ho:ops[i]? = some o):∀{R:List Nat},i∈R->(i,Yz (KS i nc) o,guardOf ops o,HW o.after.toList)∈zT nc ops R
 | [],h=>by cases h
 | j::r,h=>by
  simp only[zT];rcases QD.1 h with rfl|h
  .rw[ho];exact J2 ..
  .split
   .exact JR _ (mA ho h)
   .exact mA ho h
def br{ops}{i}:∀{R:List Nat},i ∉ R->Ca i (zT nc ops R)=zT nc ops R
 | [],_=>rfl
 | j::r,h=>by
  simp only[QD,YX]at h;simp only[zT];split
  .simp only[Ca];have:Nat.beq j i=false:=by rw[<- Ys,Wa];exact λe=>h.1 e.symm
   rw[this,YW,br h.2]
  .exact br h.2
def mB{ops}{i}:∀{R:List Nat},R.Nodup->Ca i (zT nc ops R)=zT nc ops (R.erase i)
 | [],_=>rfl
 | j::r,h=>by
  obtain⟨h1,h2⟩:=Zz.1 h;by_cases K7:j=i
  .subst K7;rw[List.erase_cons_head];simp only[zT];split
   .simp only[Ca,L7,js];exact br h1
   .exact br h1
  .rw[List.erase_cons_tail (by simpa using K7)];have hb:Nat.beq j i=false:=by rw[<- Ys,Wa];exact K7
   simp only[zT];cases ho:ops[j]? with
   | some o=>simp only[Ca,hb,YW,mB h2]
   | none=>simp only[mB h2]
def mC(hX:qH P X)(hb:base<=w0.w.heap.size){ops}{K'}(hK:∀s,K s->K' s):∀(m:Nat) (R done:List Nat) (s:St),R.Nodup->DO P base w0 X nt K m (zT nc ops R) done s->DK nc P base nt w0 ops K' m R done s
 | 0,_,_,s,_,h=>hK s h
 | m+1,R,done,s,hd,h=>by
  intro i hi o ho hh;have h1:=QbC h _ (mA ho hi);simp only[mz hh]at h1;refine AX.mono (λs hs=>mC hX hb hK m (R.erase i) (i::done) s (hd.erase _) ?_) _ _ (DM hX hb _ _ h1);rw[<- mB hd];exact hs
def QbD(nc){id}{ops}(hX:qH P X)(hb:base<=w0.w.heap.size)(n)(hm:P.follows .mixedOrders=true)(l)(R)(hB:B9 nc X.L ops l R=true)(hU:AY ops s.fr=true)
  (h:KU P base w0 X nt (DO P base w0 X nt (MO P base w0 Q X nt n k) R.length (zT nc ops R) (l.map (·.1))) (K8 nc ops l) s):Qv P base nt w0 Q (.code (.region id ops true)::k) .normal s:=by
 have hR:R.Nodup:=by
  simp only[B9,Zy]at hB;exact(Qgw hB.1.2).1
 exact Qbw hX.L hb hm l R hB hU (AX.mono (λs hs=>mC hX hb (λs hs=>HU hX hb n hs) _ _ _ s hR hs) _ _ (DM hX hb _ _ h))
def QDe{id}{ops}(hX:qH P X)(hb:base<=w0.w.heap.size)(n)(hm:P.follows .mixedOrders=true)(l)(R)(hB:B9 [] X.L ops l R=true)(hU:AY ops s.fr=true)
  (h:KU P base w0 X nt (DO P base w0 X nt (MO P base w0 Q X nt n k) R.length (zT [] ops R) (l.map (·.1))) (K8 [] ops l) s):Qv P base nt w0 Q (.code (.region id ops true)::k) .normal s:=QbD [] hX hb n hm l R hB hU h
@[go_sem] theorem QDf{i}:Region.binds .any ⟨i,.data⟩=true:=rfl
@[go_sem] theorem QDg{i}:Region.binds .any ⟨i,.chain⟩=true:=rfl
@[go_sem] theorem QDh{i}:Region.binds .any ⟨i,.guard⟩=true:=rfl
@[go_sem] theorem QDi{i}:Region.binds .any ⟨i,.phase⟩=true:=rfl
@[go_sem] theorem QDj{i}{d}:Region.binds .any ⟨i,.textOnly d⟩=false:=rfl
@[go_sem] theorem QDk{i}{d}:Region.binds .any ⟨i,.gcOnly d⟩=false:=rfl
@[go_sem] theorem QDl{es}{d}:DO P base w0 X nt K 0 es d s=K s:=KY rfl
@[go_sem] theorem QDm{m}{es}{d}:DO P base w0 X nt K (m+1) es d s=Rm (λe=>match MP d e.2.2.2 with
  | true=>KU P base w0 X nt (DO P base w0 X nt K m (Ca e.1 es) (e.1::d)) [(false,e.2.1,e.2.2.1)] s
  | false=>True) es:=KY rfl
end
def Ro(P:Program)(base nt:Nat)(w0:Start)(Q:Exit->St->Prop)(k:List Item)(S:Nat->St->Prop)(N i:Nat):Exit->St->Prop
 | .normal,s=>i<N/\∃s',Qz w0 s s'/\S (i+1) s'
 | e,s=>Qv P base nt w0 Q k e s
section
variable {P:Program}{base nt:Nat}{w0:Start}{Q:Exit->St->Prop}{k:List Item}{s:St}
@[go_sem] theorem QDn{S}{N i}:Ro P base nt w0 Q k S N i .normal s=(i<N/\∃s',Qz w0 s s'/\S (i+1) s'):=KY rfl
@[go_sem] theorem QDo{S}{N i j}:Ro P base nt w0 Q k S N i (.exit j) s=Qv P base nt w0 Q k (.exit j) s:=KY rfl
@[go_sem] theorem QDp{S}{N i}:Ro P base nt w0 Q k S N i .ret s=Qv P base nt w0 Q k .ret s:=KY rfl
def Z3{c}(S)(N){s0}(hw:Qz w0 s s0)(h0:S 0 s0)(round:∀i s,i<=N->S i s->Qv P base nt w0 (Ro P base nt w0 Q k S N i) [.code c] .normal s):Qv P base nt w0 Q (.code (.loop c)::k) .normal s:=by
 refine HJ (λm s=>∃i,i+m=N/\S i s) N hw ⟨0,ω,h0⟩ ?_;rintro m s ⟨i,hi,hs⟩;have:=round i s ω hs;simp only[Qv]at this ⊢;refine this.mono λe s' he=>?_;cases e with
 | normal=>obtain⟨h1,HI,h2,h3⟩:=he;exact⟨m - 1,HI,ω,h2,i+1,ω,h3⟩
 | _=>exact he
end
def Rp{P}{base nt}{w0}{Q}{l}{k}{s s'}(h:Qz w0 s s')(hk:Qv P base nt w0 Q (.ops l::k) .normal s'):Qv P base nt w0 Q (.ops l::k) .normal s:=by
 simp only[Qv]at hk ⊢;exact hk.Yd h
attribute [go_sem] Yz zT HW Ca MP KS Rm K8 KA false_implies imp_self ne_eq not_false_eq_true not_true_eq_false Nat.one_ne_zero
@[go_sem] theorem QDq(v):D.Vn (.raw v)=yo v:=rfl
@[go_sem] theorem QDr  : D.Vn (.nil)=true:=rfl
@[go_sem] theorem QDs  : D.Vn (.undef)=false:=rfl
@[go_sem] theorem QDt(z n)(r):D.Vn (.imm z n r)=true:=rfl
@[go_sem] theorem QDu(c):D.Vn (.ip c)=true:=rfl
@[go_sem] theorem QDv(l g o n):D.Vn (.ref l g o n)=true:=rfl
@[go_sem] theorem QDw(l g i j):D.Vn (.ptr l g i j)=true:=rfl
@[go_sem] theorem QDx(l g):D.Vn (.mref l g)=true:=rfl
@[go_sem] theorem QDy(f)(n)(c):D.Vn (.clo f n c)=true:=rfl
@[go_sem] theorem QDz(c):D.Vn (.agg c)=false:=rfl
@[go_sem] theorem QDA(c):D.Vn (.tup c)=false:=rfl
@[go_sem] theorem QDB(v):XP (.raw v)=bif D.Vn (.raw v) then some [.raw v] else none:=rfl
@[go_sem] theorem QDC  : XP (.nil)=bif D.Vn (.nil) then some [.nil] else none:=rfl
@[go_sem] theorem QDD  : XP (.undef)=bif D.Vn (.undef) then some [.undef] else none:=rfl
@[go_sem] theorem QDE(z n)(r):XP (.imm z n r)=bif D.Vn (.imm z n r) then some [.imm z n r] else none:=rfl
@[go_sem] theorem QDF(c):XP (.ip c)=bif D.Vn (.ip c) then some [.ip c] else none:=rfl
@[go_sem] theorem QDG(l g o n):XP (.ref l g o n)=bif D.Vn (.ref l g o n) then some [.ref l g o n] else none:=rfl
@[go_sem] theorem QDH(l g i j):XP (.ptr l g i j)=bif D.Vn (.ptr l g i j) then some [.ptr l g i j] else none:=rfl
@[go_sem] theorem QDI(l g):XP (.mref l g)=bif D.Vn (.mref l g) then some [.mref l g] else none:=rfl
@[go_sem] theorem QDJ(f)(n)(c):XP (.clo f n c)=bif D.Vn (.clo f n c) then some [.clo f n c] else none:=rfl
@[go_sem] theorem QDK(c:List D):XP (.agg c)=bif c.all D.Vn then some c else none:=rfl
@[go_sem] theorem QDL(c):XP (.tup c)=bif D.Vn (.tup c) then some [.tup c] else none:=rfl
@[go_sem] theorem QDM(d')(v):XC d' (.raw v)=(d'=.raw v):=rfl
@[go_sem] theorem QDN(d')  : XC d' (.nil)=(d'=.nil):=rfl
@[go_sem] theorem QDO(d')  : XC d' (.undef)=(d'=.undef):=rfl
@[go_sem] theorem QDP(z' n' z n)(r' r):XC (.imm z' n' r') (.imm z n r)=(z'=z/\n'=n/\∀i,i<n->r' i=r i):=rfl
@[go_sem] theorem QDQ(d')(c):XC d' (.ip c)=(d'=.ip c):=rfl
@[go_sem] theorem QDR(d')(l g o n):XC d' (.ref l g o n)=(d'=.ref l g o n):=rfl
@[go_sem] theorem QDS(d')(l g i j):XC d' (.ptr l g i j)=(d'=.ptr l g i j):=rfl
@[go_sem] theorem QDT(d')(l g):XC d' (.mref l g)=(d'=.mref l g):=rfl
@[go_sem] theorem QDU(d')(f)(n)(c):XC d' (.clo f n c)=(d'=.clo f n c):=rfl
@[go_sem] theorem QDV(d')(c):XC d' (.agg c)=(d'=.agg c):=rfl
@[go_sem] theorem QDW(d')(c):XC d' (.tup c)=(d'=.tup c):=rfl
end Go.Fg
namespace Go.Fg
open Go.RowKit (Below)
def pos(l:Nat):List Nat->Nat
 | []=>0
 | k::r=>bif Nat.beq k l then 0 else pos l r+1
mutual
def D.Xk(Qp:List Nat):D->D
 | .ref l g off len=>.ref (pos l Qp) g off len
 | .ptr l g i j=>.ptr (pos l Qp) g i j
 | .mref l g=>.mref (pos l Qp) g
 | .clo f nf cs=>.clo f nf (jK Qp cs)
 | .agg cs=>.agg (jK Qp cs)
 | .tup cs=>.tup (jK Qp cs)
 | d=>d
def jK(Qp:List Nat):List D->List D
 | []=>[]
 | c::cs=>c.Xk Qp::jK Qp cs
end
mutual
def D.A4(Qp:List Nat):D->Bool
 | .ref l _ _ _=>KS l Qp
 | .ptr l _ _ _=>KS l Qp
 | .mref l _=>KS l Qp
 | .clo _ _ cs=>yD Qp cs
 | .agg cs=>yD Qp cs
 | .tup cs=>yD Qp cs
 | _=>true
def yD(Qp:List Nat):List D->Bool
 | []=>true
 | c::cs=>c.A4 Qp&&yD Qp cs
end
def HX{l}:∀{Qp:List Nat},KS l Qp=true->Qp[pos l Qp]? = some l
 | [],h=>by cases h
 | k::r,h=>by
  simp only[pos];by_cases e:k=l
  .subst e;simp
  .have h1:Nat.beq k l=false:=by rw[<- Ys,Wa];exact e
   have h2:Nat.beq l k=false:=by rw[<- Ys,Wa];exact λx=>e x.symm
   simp only[KS,h2,LU]at h;simp[h1,HX h]
def jL(Qp):∀cs:List D,(jK Qp cs).length=cs.length
 | []=>rfl
 | _::cs=>by simp[jK,jL Qp cs]
def DP(Qp):∀(cs:List D) (i:Nat),i<cs.length->nth (jK Qp cs) i=(nth cs i).Xk Qp
 | [],i,h=>by simp at h
 | c::cs,0,_=>by simp[jK,nth]
 | c::cs,i+1,h=>by
  have:=DP Qp cs i (by simpa using h);simpa[jK,nth] using this
def MQ{Qp}:∀{cs:List D},yD Qp cs=true->∀i,i<cs.length->(nth cs i).A4 Qp=true
 | [],_,i,h=>by simp at h
 | d::r,hf,i,h=>by
  simp only[yD,Zy]at hf;cases i with
  | zero=>exact hf.1
  | succ i=>have:=MQ hf.2 i (by simpa using h);simpa[nth] using this
def Ob.Xk(Qp:List Nat)(o:Ob):Ob:=⟨o.kd,o.gen,o.sz,o.n,λi=>jK Qp (o.row i)⟩
def XS(h:List Ob):List Nat->List Ob
 | []=>[]
 | i::r=>match h[i]? with
  | some o=>o::XS h r
  | none=>[]
def jM(pl:List Pl):List Nat->List Pl
 | []=>[]
 | i::r=>match pl[i]? with
  | some o=>o::jM pl r
  | none=>[]
def Wh(n:Nat):List Nat->Bool
 | []=>true
 | i::r=>Nat.blt i n&&Wh n r
def yE:List Nat->Bool
 | []=>true
 | i::r=>!KS i r&&yE r
def QbE{n}:∀{l:List Nat},Wh n l=true->∀i∈l,i<n
 | [],_,i,h=>by cases h
 | k::r,h,i,hi=>by
  simp only[Wh,Zy,vL]at h;rcases QD.1 hi with e|e
  .subst e;exact h.1
  .exact QbE h.2 i e
def QbF:∀{l:List Nat},yE l=true->∀(i j x:Nat),l[i]? = some x->l[j]? = some x->i=j
 | [],_,i,j,x,h,_=>by simp at h
 | k::r,h,i,j,x,h1,h2=>by
  simp only[yE,Zy,qB]at h;have hk:k ∉ r:=λhm=>by rw[vV.2 hm]at h;cases h.1
  cases i with
  | zero=>
   simp at h1;subst h1;cases j with
   | zero=>rfl
   | succ j=>simp at h2;exact absurd (Hf h2) hk
  | succ i=>
   simp at h1;cases j with
   | zero=>simp at h2;subst h2;exact absurd (Hf h1) hk
   | succ j=>simp at h2;rw[QbF h.2 i j x h1 h2]
def HY{h:List Ob}:∀{Qp:List Nat},Wh h.length Qp=true->∀(i l:Nat),Qp[i]? = some l->(XS h Qp)[i]? = h[l]?
 | [],_,i,l,e=>by simp at e
 | k::r,hb,i,l,e=>by
  simp only[Wh,Zy,vL]at hb;simp only[XS,QP hb.1];cases i with
  | zero=>simp at e;subst e;simp[QP hb.1]
  | succ i=>simp at e;simpa using HY hb.2 i l e
def A5{h:List Pl}:∀{Qp:List Nat},Wh h.length Qp=true->∀(i l:Nat),Qp[i]? = some l->(jM h Qp)[i]? = h[l]?
 | [],_,i,l,e=>by simp at e
 | k::r,hb,i,l,e=>by
  simp only[Wh,Zy,vL]at hb;simp only[jM,QP hb.1];cases i with
  | zero=>simp at e;subst e;simp[QP hb.1]
  | succ i=>simp at e;simpa using A5 hb.2 i l e
def bt{h:List Ob}:∀{Qp:List Nat},Wh h.length Qp=true->(XS h Qp).length=Qp.length
 | [],_=>rfl
 | k::r,hb=>by
  simp only[Wh,Zy,vL]at hb;simp[XS,QP hb.1,bt hb.2]
def MS{h:List Pl}:∀{Qp:List Nat},Wh h.length Qp=true->(jM h Qp).length=Qp.length
 | [],_=>rfl
 | k::r,hb=>by
  simp only[Wh,Zy,vL]at hb;simp[jM,QP hb.1,MS hb.2]
def QC.Qp{Z Z'}{h:List Ob}{pl:List Pl}{w}{Qp}(hz:∀b,free Z pl b->Z' b)(hl:pl.length=h.length)(hb:Wh h.length Qp=true){d:D}{v}(r:QC Z h pl w d v)(hk:d.A4 Qp=true):
  QC Z' ((XS h Qp).map (Ob.Xk Qp)) (jM pl Qp) w (d.Xk Qp) v:=by
 have qc:Wh pl.length Qp=true:=by rw[hl];exact hb
 have Yy:∀b,free Z pl b->free Z' (jM pl Qp) b:=λb hf=>⟨hz b hf,λl q e=>by
  have Qb:l<Qp.length:=by rw[<- MS qc];exact Wc e
  rw[A5 qc l (Qp[l]) (QP Qb)]at e;exact hf.2 _ q e⟩
 have Z7:∀(d:D) (v:Value),Cl (free Z pl) w d v->QC Z' ((XS h Qp).map (Ob.Xk Qp)) (jM pl Qp) w (d.Xk Qp) v:=by
  intro d v hc;have jx:=hc.mono (N':=free Z' (jM pl Qp)) (w':=w) (λb hb _=>⟨Yy b hb,rfl⟩);clear hc;induction jx with
  | raw v=>exact .cl _ _ (.raw v)
  | undef v=>exact .cl _ _ (.undef v)
  | nil a=>exact .cl _ _ (.nil a)
  | imm sz n row a cap b o vs ha hl hs hc hr ih=>exact .cl _ _ (.imm sz n row a cap b o vs ha hl hs hc hr)
  | ip cells b o vs hc hr ih=>exact .cl _ _ (.ip cells b o vs hc hr)
  | clo f nf cs vs hl hr ih=>exact .clo f nf _ vs (by rw[jL];exact hl) (λi hi=>by rw[jL]at hi;rw[DP _ _ _ hi];exact ih i hi)
  | agg cs vs hl hr ih=>exact .agg _ vs (by rw[jL];exact hl) (λi hi=>by rw[jL]at hi;rw[DP _ _ _ hi];exact ih i hi)
  | tup cs vs hl hr ih=>exact .tup _ vs (by rw[jL];exact hl) (λi hi=>by rw[jL]at hi;rw[DP _ _ _ hi];exact ih i hi)
 induction r with
 | cl d v hc=>exact Z7 d v hc
 | ref l g off len o p a cap ho hp jC hg hs=>
  have hm:KS l Qp=true:=by simpa[D.A4] using hk
  exact .ref _ g off len (o.Xk Qp) p a cap (by rw[Ks,HY hb _ l (HX hm),ho];rfl) (by rw[A5 qc _ l (HX hm),hp]) jC hg hs
 | ptr l g i j o p a ho hp jC hg hs=>
  have hm:KS l Qp=true:=by simpa[D.A4] using hk
  exact .ptr _ g i j (o.Xk Qp) p a (by rw[Ks,HY hb _ l (HX hm),ho];rfl) (by rw[A5 qc _ l (HX hm),hp]) jC hg hs
 | mref l g o p b ho hp jC hg hs=>
  have hm:KS l Qp=true:=by simpa[D.A4] using hk
  exact .mref _ g (o.Xk Qp) p b (by rw[Ks,HY hb _ l (HX hm),ho];rfl) (by rw[A5 qc _ l (HX hm),hp]) jC hg hs
 | clo f nf cs vs hl hr ih=>exact .clo f nf _ vs (by rw[jL];exact hl) λi hi=>by rw[jL]at hi;rw[DP _ _ _ hi];exact ih i hi (MQ (by simpa[D.A4] using hk) i hi)
 | agg cs vs hl hr ih=>exact .agg _ vs (by rw[jL];exact hl) λi hi=>by rw[jL]at hi;rw[DP _ _ _ hi];exact ih i hi (MQ (by simpa[D.A4] using hk) i hi)
 | tup cs vs hl hr ih=>exact .tup _ vs (by rw[jL];exact hl) λi hi=>by rw[jL]at hi;rw[DP _ _ _ hi];exact ih i hi (MQ (by simpa[D.A4] using hk) i hi)
def FX(Qp:List Nat):List Ob->Prop
 | []=>True
 | o::r=>(∀i,i<o.n->yD Qp (o.row i)=true)/\FX Qp r
def QbG{Qp}:∀{h:List Ob},FX Qp h->∀(l:Nat) (o:Ob),h[l]? = some o->∀i,i<o.n->yD Qp (o.row i)=true
 | [],_,l,o,e=>by simp at e
 | o::r,h,l,u,e=>by
  cases l with
  | zero=>simp at e;subst e;exact h.1
  | succ l=>simp at e;exact QbG h.2 l u e
def Zi.Qp{Z Z'}{base}{h:List Ob}{pl}{w}{Qp}(R:Zi Z base h pl w)(hz:∀b,free Z pl b->Z' b)(hb:Wh h.length Qp=true)(hd:yE Qp=true)(h2:FX Qp (XS h Qp)):
  Zi Z' base ((XS h Qp).map (Ob.Xk Qp)) (jM pl Qp) w:=by
 have qc:Wh pl.length Qp=true:=by rw[R.len];exact hb
 have Zh:∀(i:Nat) (p:Pl),(jM pl Qp)[i]? = some p->∃l,Qp[i]? = some l/\pl[l]? = some p:=λi p e=>by
  have Qb:i<Qp.length:=by rw[<- MS qc];exact Wc e
  exact⟨Qp[i],QP Qb,by rw[<- A5 qc i _ (QP Qb)];exact e⟩
 have Zf:∀(i:Nat) (o:Ob),((XS h Qp).map (Ob.Xk Qp))[i]? = some o->∃l u,Qp[i]? = some l/\h[l]? = some u/\o=u.Xk Qp/\(XS h Qp)[i]? = some u:=λi o e=>by
  rw[Ks,VA]at e;obtain⟨u,hu,rfl⟩:=e;have Qb:i<Qp.length:=by rw[<- bt hb];exact KD hu
  exact⟨Qp[i],u,QP Qb,by rw[<- HY hb i _ (QP Qb)];exact hu,rfl,hu⟩
 refine⟨by rw[MS qc,J1,bt hb],λi i' b q q' e1 e2=>?_,λi o ho hp=>?_,λi o b q ho hp=>?_⟩
 .obtain⟨l,s1,p1⟩:=Zh _ _ e1;obtain⟨l',s2,p2⟩:=Zh _ _ e2;have:=R.inj l l' b q q' p1 p2;subst this;exact QbF hd i i' l s1 s2
 .obtain⟨l,u,s1,hu,rfl,_⟩:=Zf _ _ ho;obtain⟨l',s2,p2⟩:=Zh _ _ hp;rw[s1]at s2;cases s2;exact R.VB l u hu p2
 .obtain⟨l,u,s1,hu,rfl,xw⟩:=Zf _ _ ho;obtain⟨l',s2,p2⟩:=Zh _ _ hp;rw[s1]at s2;cases s2;obtain⟨g1,x⟩:=R.at_ l u b q hu p2;refine⟨g1,x.to rfl rfl rfl rfl (λk _=>jL _ _) λk j v hk hj hr=>?_⟩;show QC _ _ _ _ (nth (jK Qp (u.row k)) j) v;rw[DP _ _ _ hj];exact hr.Qp hz R.len hb (MQ (QbG h2 i u xw k hk) j hj)
def QbH{pl:List Pl}{Qp}(hb:Wh pl.length Qp=true){b}(h:W0 pl b):W0 (jM pl Qp) b:=λl q e=>by
 have Qb:l<Qp.length:=by rw[<- MS hb];exact Wc e
 rw[A5 hb l (Qp[l]) (QP Qb)]at e;exact h _ q e
def QbI(Qp:List Nat)(R:D->List Ob->Prop)(d:D)(h:List Ob):Prop:=d.A4 Qp=true/\Wh h.length Qp=true/\FX Qp (XS h Qp)/\R (d.Xk Qp) ((XS h Qp).map (Ob.Xk Qp))
def Rq:Nat->Nat->List Nat->Bool
 | 0,_,_=>true
 | _+1,_,[]=>false
 | m+1,i,k::r=>Nat.beq k i&&Rq m (i+1) r
def QbJ:∀{m i:Nat} {Qp:List Nat},Rq m i Qp=true->∀l,l<m->Qp[l]? = some (i+l)
 | 0,_,_,_,l,hl=>ω
 | m+1,i,[],h,_,_=>by cases h
 | m+1,i,k::r,h,l,hl=>by
  simp only[Rq,Zy]at h;obtain rfl:=Pt h.1;cases l with
  | zero=>simp
  | succ l=>rw[List.getElem?_cons_succ,QbJ h.2 l ω];congr 1;omega
def QH.Qp{P}{f}{F:List Ob}{args}{R}(Qp)(hd:yE Qp=true)(hs:Rq F.length 0 Qp=true)(h:QH P f F args (QbI Qp R)):QH P f F args R:=λZ base w pl vs h1 h2 h3 hl hc=>
 (h Z base w pl vs h1 h2 h3 hl hc).mono λ_ _ ⟨v,d,hh,Qi,k1,⟨a1,a2,a3,a4⟩,k3,k4,k5,k6⟩=>⟨v,d.Xk Qp,_,jM Qi Qp,k1,a4,k3.Qp (λ_ h=>h.1) a2 hd a3,k4.Qp (λ_ h=>h.1) k3.len a2 a1,
  k5.keep (QB _) ⟨λ_ hb=>QbH (by rw[k3.len];exact a2) hb,λl o p hl ho hp=>by
   have e:=QbJ hs l hl;rw[JD]at e;exact⟨o.Xk Qp,by rw[Ks,HY a2 l l e,ho];rfl,by rw[A5 (by rw[k3.len];exact a2) l l e,hp],rfl,rfl,rfl⟩⟩,k6⟩
attribute [go_sem] QbI pos D.Xk jK D.A4 yD Ob.Xk XS Wh FX KS
mutual
def D.idx(φ:Nat->Nat):D->D
 | .ref l g off len=>.ref (φ l) g off len
 | .ptr l g i j=>.ptr (φ l) g i j
 | .mref l g=>.mref (φ l) g
 | .clo f nf cs=>.clo f nf (jN φ cs)
 | .agg cs=>.agg (jN φ cs)
 | .tup cs=>.tup (jN φ cs)
 | d=>d
def jN(φ:Nat->Nat):List D->List D
 | []=>[]
 | c::cs=>c.idx φ::jN φ cs
end
def vY(φ):∀cs:List D,(jN φ cs).length=cs.length
 | []=>rfl
 | _::cs=>by simp[jN,vY φ cs]
def FY(φ):∀(cs:List D) (i:Nat),i<cs.length->nth (jN φ cs) i=(nth cs i).idx φ
 | [],i,h=>by simp at h
 | c::cs,0,_=>by simp[jN,nth]
 | c::cs,i+1,h=>by
  have:=FY φ cs i (by simpa using h);simpa[jN,nth] using this
def Ob.idx(φ:Nat->Nat)(o:Ob):Ob:=⟨o.kd,o.gen,o.sz,o.n,λi=>jN φ (o.row i)⟩
def QC.idx{Z Z'}{h h'}{pl Qi}{w}(φ)(hf:∀b,free Z pl b->free Z' Qi b)
  (Zf:∀(l:Nat) (o:Ob) (p:Pl),h[l]? = some o->pl[l]? = some p->∃o',h'[φ l]? = some o'/\Qi[φ l]? = some p/\o'.gen=o.gen/\o'.sz=o.sz/\o'.kd.ty=o.kd.ty) {d:D} {v:Value} (r:QC Z h pl w d v):QC Z' h' Qi w (d.idx φ) v:=by
 have Z7:∀(d:D) (v:Value),Cl (free Z pl) w d v->QC Z' h' Qi w (d.idx φ) v:=by
  intro d v hc;have jx:=hc.mono (N':=free Z' Qi) (w':=w) (λb hb _=>⟨hf b hb,rfl⟩);clear hc;induction jx with
  | raw v=>exact .cl _ _ (.raw v)
  | undef v=>exact .cl _ _ (.undef v)
  | nil a=>exact .cl _ _ (.nil a)
  | imm sz n row a cap b o vs ha hl hs hc hr ih=>exact .cl _ _ (.imm sz n row a cap b o vs ha hl hs hc hr)
  | ip cells b o vs hc hr ih=>exact .cl _ _ (.ip cells b o vs hc hr)
  | clo f nf cs vs hl hr ih=>exact .clo f nf _ vs (by rw[vY];exact hl) (λi hi=>by rw[vY]at hi;rw[FY _ _ _ hi];exact ih i hi)
  | agg cs vs hl hr ih=>exact .agg _ vs (by rw[vY];exact hl) (λi hi=>by rw[vY]at hi;rw[FY _ _ _ hi];exact ih i hi)
  | tup cs vs hl hr ih=>exact .tup _ vs (by rw[vY];exact hl) (λi hi=>by rw[vY]at hi;rw[FY _ _ _ hi];exact ih i hi)
 induction r with
 | cl d v hc=>exact Z7 d v hc
 | ref l g off len o p a cap ho hp hk hg hs=>
  obtain⟨o',h1,h2,h3,h4,h5⟩:=Zf l o p ho hp;exact .ref _ g off len o' p a cap h1 h2 (by rw[h5];exact hk) (by rw[h3];exact hg) (by rw[h3,h4];exact hs)
 | ptr l g i j o p a ho hp hk hg hs=>
  obtain⟨o',h1,h2,h3,h4,h5⟩:=Zf l o p ho hp;exact .ptr _ g i j o' p a h1 h2 (by rw[h5];exact hk) (by rw[h3];exact hg) (by rw[h3,h4];exact hs)
 | mref l g o p b ho hp hk hg hs=>
  obtain⟨o',h1,h2,h3,h4,h5⟩:=Zf l o p ho hp;exact .mref _ g o' p b h1 h2 (by rw[h5];exact hk) (by rw[h3];exact hg) (by rw[h3];exact hs)
 | clo f nf cs vs hl hr ih=>exact .clo f nf _ vs (by rw[vY];exact hl) (λi hi=>by rw[vY]at hi;rw[FY _ _ _ hi];exact ih i hi)
 | agg cs vs hl hr ih=>exact .agg _ vs (by rw[vY];exact hl) (λi hi=>by rw[vY]at hi;rw[FY _ _ _ hi];exact ih i hi)
 | tup cs vs hl hr ih=>exact .tup _ vs (by rw[vY];exact hl) (λi hi=>by rw[vY]at hi;rw[FY _ _ _ hi];exact ih i hi)
def VZ(n:Nat):List Nat->Nat->Nat
 | [],i=>n+i
 | k::_,0=>k
 | _::r,i+1=>VZ n r i
def W7{α:Type}(h:List α):List Nat->List α->List α
 | [],xs=>h++xs
 | k::r,x::xs=>W7 (h.set k x) r xs
 | _::_,[]=>h
def bu{n}:∀{Qp:List Nat} {i l:Nat},Qp[i]? = some l->VZ n Qp i=l
 | [],i,l,h=>by simp at h
 | k::r,0,l,h=>by simp at h;simp[VZ,h]
 | k::r,i+1,l,h=>by simp at h;simp[VZ,bu h]
def QbK{n}:∀{Qp:List Nat} {i:Nat},VZ n Qp (Qp.length+i)=n+i
 | [],i=>by simp[VZ]
 | k::r,i=>by
  rw[show (k::r).length+i=(r.length+i)+1 by simp;omega];simp only[VZ];exact QbK
def mD{α:Type}:∀{Qp:List Nat} {h xs:List α},Wh h.length Qp=true->yE Qp=true->Qp.length<=xs.length->∀(i:Nat),i<xs.length->(W7 h Qp xs)[VZ h.length Qp i]? = xs[i]?
 | [],h,xs,_,_,_,i,hi=>by
  simp only[W7,VZ];rw[Kb ω];congr 1;omega
 | k::r,h,[],_,_,hl,i,hi=>by simp at hi
 | k::r,h,x::xs,hb,hd,hl,i,hi=>by
  simp only[Wh,Zy,vL]at hb;simp only[yE,Zy,qB]at hd;simp only[W7];have hlen:(h.set k x).length=h.length:=σ;cases i with
  | zero=>
   have hk:k ∉ r:=λhm=>by rw[vV.2 hm]at hd;cases hd.1
   have key:∀(r:List Nat) (h' xs:List α),k ∉ r->k<h'.length->(W7 h' r xs)[k]? = h'[k]? := by
    intro r;induction r with
    | nil=>intro h' xs _ Qb;simp only[W7];rw[JC Qb]
    | cons j r ih=>
     intro h' xs hm Qb;cases xs with
     | nil=>rfl
     | cons y ys=>
      simp only[W7];rw[ih (h'.set j y) ys (λhh=>hm (JR _ hh)) (by simpa using Qb),Jw (λe=>hm (by rw[e];exact J2))]
   simp only[VZ];rw[key r (h.set k x) xs hk (by simpa using hb.1)];simp[hb.1]
  | succ i=>
   simp only[VZ];rw[<- hlen];exact mD (by rw[hlen];exact hb.2) hd.2 (by simpa using hl) i (by simpa using hi)
def MT{α:Type}:∀{Qp:List Nat} {h xs:List α} {l:Nat},l<h.length->l ∉ Qp->(W7 h Qp xs)[l]? = h[l]?
 | [],h,xs,l,hl,_=>by simp only[W7];rw[JC hl]
 | k::r,h,[],l,hl,_=>rfl
 | k::r,h,x::xs,l,hl,hm=>by
  simp only[W7];rw[MT (by simpa using hl) (λhh=>hm (JR _ hh)),Jw (λe=>hm (by rw[e];exact J2))]
def bw{α:Type}:∀{Qp:List Nat} {h xs:List α},Qp.length<=xs.length->(W7 h Qp xs).length=h.length+(xs.length - Qp.length)
 | [],h,xs,_=>by simp[W7]
 | k::r,h,[],hl=>by simp at hl
 | k::r,h,x::xs,hl=>by
  simp only[W7];rw[bw (by simpa using hl)];simp
def QmP{α:Type}{Qp:List Nat}{h xs:List α}(hb:Wh h.length Qp=true)(hl:Qp.length<=xs.length){l}(h1:l<h.length+(xs.length - Qp.length)):
  (∃i,i<xs.length/\l=VZ h.length Qp i)\/(l<h.length/\l ∉ Qp):=by
 by_cases Qb:l<h.length
 .by_cases hm:l∈Qp
  .obtain⟨i,hi,e⟩:=wZ hm;exact .inl ⟨i,ω,(bu (by rw[QP hi,e])).symm⟩
  .exact .inr ⟨Qb,hm⟩
 .refine .inl ⟨Qp.length+(l - h.length),ω,?_⟩;rw[QbK];omega
section
variable {P:Program}{base nt:Nat}{w0:Start}{Q:Exit->St->Prop}
def Yg(h:List Ob)(Qp:List Nat)(h':List Ob):List Ob:=W7 h Qp (h'.map (Ob.idx (VZ h.length Qp)))
def QmQ{Z}{s:St}{pl}{w w':World}{Qp}(R:Zi Z base s.h pl w)(Q1:base<=w.heap.size)(hz:∀b,w.heap.size<=b->Z b)(hb:Wh s.h.length Qp=true)(hd:yE Qp=true)
  {h':List Ob} {Qi:List Pl} {d:D} {v:Value} {F:List Ob} (hF:F.length=Qp.length) (hFk:∀(i:Nat) (o u:Ob),F[i]? = some o->(∃l,Qp[i]? = some l/\s.h[l]? = some u)->o.gen=u.gen/\o.sz=u.sz/\o.kd.ty=u.kd.ty)
  (O':Zi (λb=>Z b/\∀l q,pl[l]? = some (some (b,q))->l∈Qp) base h' Qi w') (V':QC (λb=>Z b/\∀l q,pl[l]? = some (some (b,q))->l∈Qp) h' Qi w' d v)
  (T:Tr F (jM pl Qp) w h' Qi w') (B:Below base w w') :
  Tr s.h pl w (Yg s.h Qp h') (W7 pl Qp Qi) w'/\Zi Z base (Yg s.h Qp h') (W7 pl Qp Qi) w'/\QC Z (Yg s.h Qp h') (W7 pl Qp Qi) w' (d.idx (VZ s.h.length Qp)) v:=by
 have qc:Wh pl.length Qp=true:=by rw[R.len];exact hb
 have mE:Qi.length=h'.length:=O'.len;have MU:∀(i l:Nat),Qp[i]? = some l->∃u p o' p',s.h[l]? = some u/\pl[l]? = some p/\h'[i]? = some o'/\Qi[i]? = some p'/\u.gen<=o'.gen/\o'.kd.ty=u.kd.ty/\(o'.gen=u.gen->o'.sz=u.sz/\p'=p):=by
  intro i l e;have hi:i<Qp.length:=(WC.1 e).1;have hl:l<s.h.length:=QbE hb l (Hf e);have e1:F[i]? = some (F[i]'ω):=QP _;have e2:s.h[l]? = some s.h[l]:=QP hl;have Jp:l<pl.length:=by rw[R.len];exact hl
  have e3:pl[l]? = some pl[l]:=QP Jp;obtain⟨k1,k2,k3⟩:=hFk i _ _ e1 ⟨l,e,e2⟩;obtain⟨o',p',t1,t2,t3,t4,t5⟩:=T.obj i _ pl[l] e1 (by rw[A5 qc i l e,e3]);exact⟨_,_,o',p',e2,e3,t1,t2,ω,by rw[t4,k3],λx=>by obtain⟨y,z⟩:=t5 ω;exact⟨by rw[y,k2],z⟩⟩
 have A7:Qp.length<=h'.length:=by
  rcases Nat.eq_zero_or_pos Qp.length with h0|h0
  .omega
  .obtain⟨_,_,o',_,_,_,h3,_⟩:=MU (Qp.length - 1) _ (QP ω);have:=KD h3;omega
 have Qgx:Qp.length<=Qi.length:=ω;have hN:s.h.length=pl.length:=R.len.symm;have bA:∀i,i<Qi.length->(W7 pl Qp Qi)[VZ s.h.length Qp i]? = Qi[i]? := λi hi=>by rw[hN];exact mD qc hd Qgx i hi
 have Rr:∀i,i<h'.length->(Yg s.h Qp h')[VZ s.h.length Qp i]? = (h'[i]?).map (Ob.idx (VZ s.h.length Qp)):=λi hi=>by
  unfold Yg;rw[mD hb hd (by simpa using A7) i (by simpa using hi),Ks]
 have other:∀(l b q:Nat),l ∉ Qp->pl[l]? = some (some (b,q))->W0 Qi b/\w'.heap[b]? = w.heap[b]? := λl b q hm e=>by
  refine T.J3 b (λi q' e'=>?_) (R.lt e).1;have hi:i<Qp.length:=by rw[<- MS qc];exact Wc e'
  have e2:Qp[i]? = some Qp[i]:=QP hi;rw[A5 qc i _ e2]at e';have:=R.inj _ _ _ _ _ e e';exact hm (by rw[this];exact YU hi)
 have MV:∀(l:Nat) (p:Pl),(W7 pl Qp Qi)[l]? = some p->(∃i,i<Qi.length/\l=VZ s.h.length Qp i/\Qi[i]? = some p)\/(l<pl.length/\l ∉ Qp/\pl[l]? = some p):=λl p e=>by
  have Qb:=Wc e;rw[bw Qgx]at Qb;rcases QmP qc Qgx Qb with ⟨i,hi,rfl⟩|⟨h1,h2⟩
  .rw[hN]at bA ⊢;exact .inl ⟨i,hi,rfl,by rw[<- bA i hi];exact e⟩
  .exact .inr ⟨h1,h2,by rw[MT h1 h2]at e;exact e⟩
 have ME:∀b,free (λb=>Z b/\∀l q,pl[l]? = some (some (b,q))->l∈Qp) Qi b->free Z (W7 pl Qp Qi) b:=λb hf=>⟨hf.1.1,λl q e=>by
  rcases MV l _ e with ⟨i,_,_,e2⟩|⟨_,h2,e2⟩
  .exact hf.2 i q e2
  .exact h2 (hf.1.2 l q e2)⟩
 have Zf:∀(l:Nat) (o:Ob) (p:Pl),h'[l]? = some o->Qi[l]? = some p->∃o',(Yg s.h Qp h')[VZ s.h.length Qp l]? = some o'/\(W7 pl Qp Qi)[VZ s.h.length Qp l]? = some p/\o'.gen=o.gen/\o'.sz=o.sz/\o'.kd.ty=o.kd.ty:=λl o p ho hp=>
  ⟨o.idx (VZ s.h.length Qp),by rw[Rr l (KD ho),ho];rfl,by rw[bA l (Wc hp),hp],rfl,rfl,rfl⟩
 have T2:Tr s.h pl w (Yg s.h Qp h') (W7 pl Qp Qi) w':=by
  refine⟨λb hbw Qb=>?_,λl o p ho hp=>?_,λl o o' b q ho Zv hg hp c el hc=>?_⟩
  .obtain⟨h1,h2⟩:=T.J3 b (QbH qc hbw) Qb;refine⟨λl q e=>?_,h2⟩;rcases MV l _ e with ⟨i,_,_,e2⟩|⟨_,_,e2⟩
   .exact h1 i q e2
   .exact hbw l q e2
  .by_cases hm:l∈Qp
   .obtain⟨i,hi,e⟩:=wZ hm;have e2:Qp[i]? = some l:=by rw[QP hi,e]
    obtain⟨u,p1,o',p',k1,k2,k3,k4,k5,k6,k7⟩:=MU i l e2;rw[ho]at k1;cases k1;rw[hp]at k2;cases k2;have FZ:VZ s.h.length Qp i=l:=bu e2;refine⟨o'.idx (VZ s.h.length Qp),p',by rw[<- FZ,Rr i (KD k3),k3];rfl,by rw[<- FZ,bA i (Wc k4),k4],k5,k6,k7⟩
   .exact⟨o,p,by unfold Yg;rw[MT (KD ho) hm];exact ho,by rw[MT (Wc hp) hm];exact hp,QB _,rfl,λ_=>⟨rfl,rfl⟩⟩
  .by_cases hm:l∈Qp
   .obtain⟨i,hi,e⟩:=wZ hm;have e2:Qp[i]? = some l:=by rw[QP hi,e]
    obtain⟨u,p1,o1,p',k1,k2,k3,k4,k5,k6,k7⟩:=MU i l e2;rw[ho]at k1;cases k1;have FZ:VZ s.h.length Qp i=l:=bu e2;rw[<- FZ,Rr i (KD k3),k3]at Zv;cases Zv;have e1:F[i]? = some (F[i]'ω):=QP _;obtain⟨f1,f2,f3⟩:=hFk i _ _ e1 ⟨l,e2,ho⟩;have hg:o1.gen=o.gen:=hg;exact T.shape i _ o1 b q e1 k3 ω (by rw[A5 qc i l e2,hp]) c el hc
   .exact⟨c,by rw[(other l b q hm hp).2];exact hc,rfl⟩
 refine⟨T2,⟨?_,λl l' b q q' e1 e2=>?_,λl o ho hp=>?_,λl o b q ho hp=>?_⟩,V'.idx _ ME Zf⟩
 .unfold Yg;rw[bw Qgx,bw (by simpa using A7)];simp[R.len,mE]
 .rcases MV l _ e1 with ⟨i,hi,rfl,e3⟩|⟨h1,h2,e3⟩<;>rcases MV l' _ e2 with ⟨j,hj,rfl,e4⟩|⟨h3,h4,e4⟩
  .rw[O'.inj i j b q q' e3 e4]
  .exact absurd e3 ((other l' b q' h4 e4).1 i q)
  .exact absurd e4 ((other l b q h2 e3).1 j q')
  .exact R.inj l l' b q q' e3 e4
 .rcases MV l _ hp with ⟨i,hi,rfl,e3⟩|⟨h1,h2,e3⟩
  .have Z9:i<h'.length:=ω;rw[Rr i Z9,QP Z9]at ho;cases ho;exact O'.VB i h'[i] (QP Z9) e3
  .unfold Yg at ho;rw[MT ω h2]at ho;exact R.VB l o ho e3
 .rcases MV l _ hp with ⟨i,hi,rfl,e3⟩|⟨h1,h2,e3⟩
  .have Z9:i<h'.length:=ω;rw[Rr i Z9,QP Z9]at ho;cases ho;obtain⟨g1,x⟩:=O'.at_ i _ b q (QP Z9) e3;refine⟨g1,x.to rfl rfl rfl rfl (λk _=>vY _ _) λk j v hk hj hr=>?_⟩;show QC _ _ _ _ (nth (jN _ (h'[i].row k)) j) v;rw[FY _ _ _ hj];exact hr.idx _ ME Zf
  .unfold Yg at ho;rw[MT ω h2]at ho;obtain⟨g1,x⟩:=R.at_ l o b q ho e3;exact⟨g1,x.to rfl rfl rfl (other l b q h2 e3).2 (λ_ _=>rfl) λi j v _ _ hr=>hr.tr T2⟩
def QmR(Q1:base<=w0.w.heap.size){o:Oper}{s}{x}{args}{Zl:Array TypeId}{f}{nf}{Qs}(hf:Qm P f)(ho:o.op=.call ⟨.value x,args,Zl⟩)
  (hx:Jq (Qo s.fr x)=some (f,nf,Qs)) (Qp:List Nat) (hb:Wh s.h.length Qp=true) (hd:yE Qp=true) (mF:FX Qp (XS s.h Qp)) (Rs:yD Qp (ZT nf Qs (args.toList.map (Qo s.fr)))=true)
  {R:D->List Ob->Prop} (hF:QH P f ((XS s.h Qp).map (Ob.Xk Qp)) (jK Qp (ZT nf Qs (args.toList.map (Qo s.fr)))) R)
  (ht:Zk nt o.dst=true) {Z:Nat->Prop} (z:PV w0 Z) (pl:List Pl) (a:Act) (w:World) (r:Rel Z base nt s pl a w) (b:KX Z base w0 s.h pl w) (Q':Exit->Act->World->Prop) :
  o.wp P a w (λa' w'=>(Qp=[]->Ext w w')/\∃d h Qi,R d h/\Rel Z base nt ⟨Za s.fr o.dst (d.idx (VZ s.h.length Qp)),Yg s.h Qp h⟩ Qi a' w'/\KX Z base w0 (Yg s.h Qp h) Qi w'/\Tr s.h pl w (Yg s.h Qp h) Qi w'/\∃v,a'=a.put o.dst v) Q':=by
 obtain⟨vs,hv,kR,DE⟩:=P3 (r.eval x) hx;have qJ:base<=w.heap.size:=Ki Q1 b.1.size;have hzw:∀b,w.heap.size<=b->Z b:=b.2.2.new;have qc:Wh pl.length Qp=true:=by rw[r.o.len];exact hb
 have xj:∀b,free Z pl b->(Z b/\∀l q,pl[l]? = some (some (b,q))->l∈Qp):=λk hk=>⟨hk.1,λl q e=>absurd e (hk.2 l q)⟩;obtain⟨q1,Kj⟩:=P4 (r:=λd v=>QC Z s.h pl w d v) (nf:=nf) kR DE (us:=args.toList.map a.eval) (args:=args.toList.map (Qo s.fr)) σ (λi hi=>by
  have Z9:i<args.toList.length:=by simpa using hi
  simp only[nth,QZ,Q5,Ks];rw[QP Z9];exact r.eval _)
 have hc:=hF (λb=>Z b/\∀l q,pl[l]? = some (some (b,q))->l∈Qp) base w (jM pl Qp) (ZT nf vs (args.toList.map a.eval)) qJ
  (λk hk=>⟨hzw k hk,λl q e=>by have:=(r.o.lt e).1;omega⟩) (r.o.Qp xj hb hd mF) (by rw[jL];exact q1) (λi hi=>by
   rw[jL]at hi;rw[DP _ _ _ hi];exact(Kj i hi).Qp xj r.o.len hb (MQ Rs i hi))
 unfold Oper.wp;rw[P5 hf ho hv w];simp only[Oper.upon_enter];refine hc.mono λe w' he=>?_;obtain⟨v,d,h',Qi,rfl,hR,hO,hV,hT,hB⟩:=he;obtain⟨j1,j2,j3⟩:=QmQ r.o qJ hzw hb hd (F:=(XS s.h Qp).map (Ob.Xk Qp)) (by rw[J1,bt hb]) (λi o u e ⟨l,e1,e2⟩=>by
  rw[Ks,HY hb i l e1,e2]at e;cases e;exact⟨rfl,rfl,rfl⟩) hO hV hT hB
 refine⟨λe=>by subst e;exact λk hk=>(hT.J3 k (λl q e=>by simp[jM]at e) hk).2,d,h',W7 pl Qp Qi,hR,?_,b.step j1 hB,j1,v,rfl⟩;cases hd:o.dst with
 | none=>exact r.ym j1 j2 v
 | some t=>rw[hd]at ht;exact r.to j1 j2 (jE ht) j3
def VC(Q1:base<=w0.w.heap.size)(Qp){k}{dst}{ty:TypeId}{pos}{after}{gd}{r}{s}{x}{args}{Zl:Array TypeId}{f}{nf}{Qs}(hf:Qm P f)
  (hx:Jq (Qo s.fr x)=some (f,nf,Qs)) {F:List Ob} {cs:List D} (ZM:Wh s.h.length Qp=true/\yE Qp=true/\FX Qp (XS s.h Qp)/\yD Qp (ZT nf Qs (args.toList.map (Qo s.fr)))=true/\KA (jK Qp (ZT nf Qs (args.toList.map (Qo s.fr)))) cs/\yz ((XS s.h Qp).map (Ob.Xk Qp)) F)
  {R:D->List Ob->Prop} (hF:QH P f F cs R) (ht:Zk nt dst=true) (hk:∀d h,R d h->Qv P base nt w0 Q (.ops r::k) .normal ⟨Za s.fr dst (d.idx (VZ s.h.length Qp)),Yg s.h Qp h⟩) :
  Qv P base nt w0 Q (.ops ((⟨dst,.call ⟨.value x,args,Zl⟩,ty,pos,after,gd⟩,none)::r)::k) .normal s:=by
 simp only[Qv]at hk ⊢;obtain⟨hb,hd,mF,Rs,he,hle⟩:=ZM;intro Z z pl a w r b;simp only[Yx,W3,Vs];have hF2:=hF.args he;have hF3:QH P f ((XS s.h Qp).map (Ob.Xk Qp)) (jK Qp (ZT nf Qs (args.toList.map (Qo s.fr)))) R:=by
  intro Z base w pl vs h1 h2 h3 hl hc;have hw:=Wk.FR (m:=F.length) (fr:=[]) hle;obtain⟨Qi,r',K⟩:=hw Z base 0 pl { tmps:=#[],defers:=[] } w ⟨rfl,rfl,λt=>.cl _ _ (.undef _),h3⟩;obtain⟨e1,e2⟩:=aF hle;refine(hF2 Z base w pl vs h1 h2 ?_ hl (λi hi=>(hc i hi).FR hle)).mono λe w' ⟨v,d,h,Qi,k1,k2,k3,k4,k5,k6⟩=>⟨v,d,h,Qi,k1,k2,k3,k4,?_,k6⟩
  .refine⟨by rw[e1];exact h3.len,h3.inj,λl o' ho hp=>?_,λl o' b q ho hp=>?_⟩
   .obtain⟨o,g3,g4⟩:=e2 l o' ho;rw[g4.2.2.1];exact h3.VB l o g3 hp
   .obtain⟨o,g3,g4,g5,g6,g8,g7⟩:=e2 l o' ho;obtain⟨g1,x⟩:=h3.at_ l o b q g3 hp;exact⟨λhr=>g1 (by rw[<- g8.2,hr]),x.to g8.1 g5 g6 rfl (λi hi=>by rw[g7 i hi]) λi j v hi _ hr=>by rw[g7 i hi];exact hr.FR hle⟩
  .have key:∀(l:Nat) (o:Ob),((XS s.h Qp).map (Ob.Xk Qp))[l]? = some o->∃o',F[l]? = some o'/\MA o o':=λl o e=>by
    have:l<F.length:=by rw[e1];exact KD e
    obtain⟨o2,g3,g4⟩:=e2 l _ (QP this);rw[e]at g3;cases g3;exact⟨_,QP this,g4⟩
   refine⟨k5.J3,λl o p ho hp=>?_,λl o UA b q ho Mi hg hp c el hc=>?_⟩
   .obtain⟨o1,g1,g2,g3,g4,g5,g6⟩:=key l o ho;obtain⟨o',p',t1,t2,t3,t4,t5⟩:=k5.obj l o1 p g1 hp;exact⟨o',p',t1,t2,ω,by rw[t4,g5.1],λx=>by obtain⟨y1,y2⟩:=t5 ω;exact⟨by rw[y1,g3],y2⟩⟩
   .obtain⟨o1,g1,g2,g3,g4,g5,g6⟩:=key l o ho;exact k5.shape l o1 UA b q g1 Mi ω hp c el hc
 exact Oper.wp_mono (λa' w' ⟨_,d,h,Qi,hR,r',b',_⟩=>hk d h hR Z z Qi a' w' r' b') (QmR Q1 hf rfl hx Qp hb hd mF Rs hF3 ht z pl a w r b _)
end
attribute [go_sem] D.idx jN Ob.idx VZ W7 Yg yE Rq
end Go.Fg
namespace Go.Fg
def bB(fr:List (Nat × D)):List Nat->List (Nat × D)
 | []=>[]
 | t::r=>(t,get fr t)::bB fr r
attribute [go_sem] bB
def XT{G:Type}(R:Nat->Prop)(V:Nat->G->List (Nat × D))(H:Nat->G->List Ob)(rest:List (Nat × D))(i:Nat)(s:St):Prop:=R i/\∃γ,s=⟨V i γ++rest,H i γ⟩
def XT.mk{G:Type}{R}{V}{H}{rest}{i}(γ:G)(h:R i):XT R V H rest i ⟨V i γ++rest,H i γ⟩:=⟨h,γ,rfl⟩
section
variable {P:Program}{base nt:Nat}{w0:Start}{Q:Exit->St->Prop}{k:List Item}
def MW{G:Type}(keep)(R)(V:Nat->G->List (Nat × D))(H:Nat->G->List Ob)(N)(γ0:G){c}{fr}{h}{rest}(hr:bB fr keep=rest)
  (hw:Qz w0 ⟨fr,h⟩ ⟨V 0 γ0++rest,H 0 γ0⟩) (hR:R 0)
  (round:∀i γ,i<=N->R i->Qv P base nt w0 (Ro P base nt w0 Q k (XT R V H rest) N i) [.code c] .normal ⟨V i γ++rest,H i γ⟩):Qv P base nt w0 Q (.code (.loop c)::k) .normal ⟨fr,h⟩:=
 Z3 (XT R V H rest) N hw ⟨hR,γ0,rfl⟩ λi s hi ⟨hRi,γ,e⟩=>by subst e;exact round i γ hi hRi
end
section
variable {P:Program}{base:Nat}{w0:Start}{Q:Exit->St->Prop}{X:Cx}{nt n:Nat}{k k':List Item}{s s':St}
def jO{i N:Nat}(hi:i<=N)(h1:i<N->hx P base w0 Q X nt n k s)(h2:i=N->hx P base w0 Q X nt n k' s'):Wx (decide (i<N)) (hz P base w0 Q X nt n k s) (hz P base w0 Q X nt n k' s'):=
 ⟨λh=>h1 (by simpa using h),λh=>h2 (by simp at h;omega)⟩
def jP{i N:Nat}(hi:i<=N)(h1:i<N->hx P base w0 Q X nt n k s)(h2:i=N->hx P base w0 Q X nt n k' s'):Wx (decide ((i:Int)<(N:Int))) (hz P base w0 Q X nt n k s) (hz P base w0 Q X nt n k' s'):=
 ⟨λh=>h1 (by simpa using h),λh=>h2 (by simp at h;omega)⟩
def QfZ{p}[Decidable p](h1:p->hx P base w0 Q X nt n k s)(h2:¬ p->hx P base w0 Q X nt n k' s'):Wx (decide p) (hz P base w0 Q X nt n k s) (hz P base w0 Q X nt n k' s'):=
 ⟨λh=>h1 (X8 h),λh=>h2 (BR h)⟩
def Qf0{α:Type}[BEq α][LawfulBEq α]{a b:α}(h1:a=b->hx P base w0 Q X nt n k s)(h2:a≠b->hx P base w0 Q X nt n k' s'):Wx (a==b) (hz P base w0 Q X nt n k s) (hz P base w0 Q X nt n k' s'):=
 ⟨λh=>h1 (by simpa using h),λh=>h2 (by simpa using h)⟩
def QgF{α:Type}[BEq α][LawfulBEq α]{a b:α}(h1:a≠b->hx P base w0 Q X nt n k s)(h2:a=b->hx P base w0 Q X nt n k' s'):Wx (a != b) (hz P base w0 Q X nt n k s) (hz P base w0 Q X nt n k' s'):=
 ⟨λh=>h1 (by simpa using h),λh=>h2 (by simpa using h)⟩
def QgM{K K'}{l l'}{p}[Decidable p](h1:p->KU P base w0 X nt K l s)(h2:¬ p->KU P base w0 X nt K' l' s'):Wx (decide p) (qL P base w0 X nt K l s) (qL P base w0 X nt K' l' s'):=
 ⟨λh=>h1 (X8 h),λh=>h2 (BR h)⟩
def Qhb{K K':St->Prop}{l l':List (Bool × Oper × G)}{α:Type}[BEq α][LawfulBEq α]{a b:α}(h1:a=b->KU P base w0 X nt K l s)(h2:a≠b->KU P base w0 X nt K' l' s'):Wx (a==b) (qL P base w0 X nt K l s) (qL P base w0 X nt K' l' s'):=
 ⟨λh=>h1 (by simpa using h),λh=>h2 (by simpa using h)⟩
def F5{K K':St->Prop}{l l':List (Bool × Oper × G)}{α:Type}[BEq α][LawfulBEq α]{a b:α}(h1:a≠b->KU P base w0 X nt K l s)(h2:a=b->KU P base w0 X nt K' l' s'):Wx (a != b) (qL P base w0 X nt K l s) (qL P base w0 X nt K' l' s'):=
 ⟨λh=>h1 (by simpa using h),λh=>h2 (by simpa using h)⟩
end
end Go.Fg
namespace Go.Fg
open Go.RowKit (Below)
def rowFrom(off:Nat)(row:Nat->List D):Nat->List D:=λi=>row (off+i)
theorem QbO(row):rowFrom 0 row=row:=by funext i;simp[rowFrom]
theorem Rt(off)(row)(i):rowFrom off row i=row (off+i):=rfl
mutual
def D.fz(l g0 n sz:Nat)(row:Nat->List D):D->D
 | .ref l' g off len=>bif Nat.beq l' l then (bif Nat.beq g g0&&Nat.ble (off+len) n then .imm sz len (rowFrom off row) else .undef) else .ref l' g off len
 | .ptr l' g i j=>bif Nat.beq l' l then (bif Nat.beq g g0&&Nat.blt i n&&Nat.ble j sz then .ip ((row i).drop j) else .undef) else .ptr l' g i j
 | .mref l' g=>bif Nat.beq l' l then .undef else .mref l' g
 | .clo f nf cs=>.clo f nf (kW l g0 n sz row cs)
 | .agg cs=>.agg (kW l g0 n sz row cs)
 | .tup cs=>.tup (kW l g0 n sz row cs)
 | d=>d
def kW(l g0 n sz:Nat)(row:Nat->List D):List D->List D
 | []=>[]
 | c::cs=>c.fz l g0 n sz row::kW l g0 n sz row cs
end
def vZ(l g0 n sz)(row):∀cs:List D,(kW l g0 n sz row cs).length=cs.length
 | []=>rfl
 | _::cs=>by simp[kW,vZ l g0 n sz row cs]
def F6(l g0 n sz)(row):∀(cs:List D) (i:Nat),i<cs.length->nth (kW l g0 n sz row cs) i=(nth cs i).fz l g0 n sz row
 | [],i,h=>by simp at h
 | c::cs,0,_=>by simp[kW,nth]
 | c::cs,i+1,h=>by
  have:=F6 l g0 n sz row cs i (by simpa using h);simpa[kW,nth] using this
theorem QmV(l g0 n sz)(row)(c)(a b):kW l g0 n sz row (bif c then a else b)=bif c then kW l g0 n sz row a else kW l g0 n sz row b:=by cases c<;>rfl
def MX(l g0 n sz:Nat)(row:Nat->List D):List (Nat × D)->List (Nat × D)
 | []=>[]
 | (t,d)::r=>(t,d.fz l g0 n sz row)::MX l g0 n sz row r
def Ob.fz(l g0 n sz:Nat)(row:Nat->List D)(o:Ob):Ob:=⟨o.kd,o.gen,o.sz,o.n,λi=>kW l g0 n sz row (o.row i)⟩
def MY(l g0 n sz:Nat)(row:Nat->List D):List Ob->List Ob
 | []=>[]
 | o::r=>o.fz l g0 n sz row::MY l g0 n sz row r
def Ob.gone(o:Ob):Ob:=⟨.arr,o.gen+1,o.sz,0,λ_=>[]⟩
section
variable {Z:Nat->Prop}
def QmW{N}{w}(l g0 n sz)(row){d:D}{v}(c:Cl N w d v):Cl N w (d.fz l g0 n sz row) v:=by
 induction c with
 | raw v=>exact .raw v
 | undef v=>exact .undef v
 | nil a=>exact .nil a
 | imm s m r a cap b o vs ha hl hs hc hr ih=>exact .imm s m r a cap b o vs ha hl hs hc hr
 | ip cells b o vs hc hr ih=>exact .ip cells b o vs hc hr
 | clo f nf cs vs hl hr ih=>exact .clo f nf _ vs (by rw[vZ];exact hl) (λi hi=>by rw[vZ]at hi;rw[F6 _ _ _ _ _ _ _ hi];exact ih i hi)
 | agg cs vs hl hr ih=>exact .agg _ vs (by rw[vZ];exact hl) (λi hi=>by rw[vZ]at hi;rw[F6 _ _ _ _ _ _ _ hi];exact ih i hi)
 | tup cs vs hl hr ih=>exact .tup _ vs (by rw[vZ];exact hl) (λi hi=>by rw[vZ]at hi;rw[F6 _ _ _ _ _ _ _ hi];exact ih i hi)
def QC.fz{h:List Ob}{pl:List Pl}{w:World}{l:Nat}{o:Ob}{p:Pl}(ho:h[l]? = some o)(hp:pl[l]? = some p)(hk:o.kd.ty=0)(hb:∀b q,p=some (b,q)->Z b/\(∀l' q',pl[l']? = some (some (b,q'))->l'=l)/\Mg Z h pl w o b q)
  (Z7:∀i,i<o.n->(o.row i).all D.qI=true) {h':List Ob} (hh:∀(l':Nat) (o':Ob),l'≠l->h[l']? = some o'->∃u,h'[l']? = some u/\u.gen=o'.gen/\u.sz=o'.sz/\u.kd.ty=o'.kd.ty) {d:D} {v:Value} (r:QC Z h pl w d v) :
  QC Z h' (pl.set l none) w (d.fz l o.gen o.n o.sz o.row) v:=by
 have Zh:∀(l':Nat),l'≠l->(pl.set l none)[l']? = pl[l']? := λl' YY=>by rw[Jw (Q3 YY)]
 have ML:∀b,W0 pl b->W0 (pl.set l none) b:=λb hb l' q e=>by
  by_cases e1:l'=l
  .subst e1;rw[Wt (Wc hp)]at e;cases e
  .rw[Zh l' e1]at e;exact hb l' q e
 have Yy:∀b,free Z pl b->free Z (pl.set l none) b:=λb hb=>⟨hb.1,ML b hb.2⟩;have DQ:∀b q,p=some (b,q)->free Z (pl.set l none) b:=λb q e=>⟨(hb b q e).1,λl' q' e'=>by
  by_cases e1:l'=l
  .subst e1;rw[Wt (Wc hp)]at e';cases e'
  .rw[Zh l' e1]at e';exact e1 ((hb b q e).2.1 l' q' e')⟩
 have BX:∀b q,p=some (b,q)->∃c el,w.heap[b]? = some (.cells c el (0,0))/\(∀i,i<o.n->(o.row i).length=o.sz)/\∃vs:Nat->Nat->Value,∀i j,i<o.n->j<o.sz->w.cell? ⟨b,q+(i*o.sz+j),none⟩=some (vs i j)/\Cl (free Z (pl.set l none)) w (nth (o.row i) j) (vs i j):=λb q e=>by
  obtain⟨c,el,h1,_,h3,h4⟩:=(hb b q e).2.2;refine⟨c,el,h1,h3,λi j=>(c[q+(i*o.sz+j)]?).getD Go.undef,λi j hi hj=>?_⟩;obtain⟨u,hu,hr⟩:=h4 i j hi hj;refine⟨by rw[cell_of_row w b _ c el (0,0) h1,hu];simp[hu],?_⟩;simp only[hu,KR];have h5:=Z7 i hi;rw[XK]at h5;have h6:j<(o.row i).length:=by rw[h3 i hi];exact hj
  have h7:(nth (o.row i) j).qI=true:=h5 _ (by simp only[nth,Q5,QP h6,KR];exact YU h6);exact(FO hr h7).mono λx hx _=>⟨Yy x hx,rfl⟩
 induction r with
 | cl d v hc=>exact .cl _ _ (QmW l o.gen o.n o.sz o.row (hc.mono λb hb _=>⟨Yy b hb,rfl⟩))
 | ref l' g off len o' p' a cap Zv ZS ZJ hg hs=>
  by_cases e:l'=l
  .subst e;rw[ho]at Zv;cases Zv;rw[hp]at ZS;cases ZS;simp only[D.fz,L7,js];cases hc:(Nat.beq g o.gen&&Nat.ble (off+len) o.n)
   .exact .cl _ _ (.undef _)
   .simp only[js,Zy,Wa,Nat.ble_eq]at hc ⊢;rcases hs hc.1 with ⟨h1,h2⟩|⟨b,q,c,el,Wb,ha,FZ,JF,BW⟩
    .subst h1;subst h2;exact .cl _ _ (.imm _ _ _ _ _ 0 0 (λ_ _=>Go.undef) (λh=>ω) ω (λi hi=>ω) (λi j hi=>ω) (λi j hi=>ω))
    .obtain⟨c',UT,k1,k2,vs,k3⟩:=BX b q Wb;refine .cl _ _ (.imm _ _ _ _ _ b (q+off*o.sz) (λi j=>vs (off+i) j) (λ_=>ha) BW (λi hi=>k2 _ ω) (λi j hi hj=>⟨DQ b q Wb,?_⟩) (λi j hi hj=>(k3 (off+i) j ω hj).2));rw[<- (k3 (off+i) j ω hj).1,Vz,show q+off*o.sz+(i*o.sz+j)=q+(off*o.sz+i*o.sz+j) by omega]
  .have QA:Nat.beq l' l=false:=by rw[<- Ys,Wa];exact e
   simp only[D.fz,QA,YW];obtain⟨u,u1,u2,u3,u4⟩:=hh l' o' e Zv;exact .ref l' g off len u p' a cap u1 (by rw[Zh l' e];exact ZS) (by rw[u4];exact ZJ) (by rw[u2];exact hg) (by rw[u2,u3];exact hs)
 | ptr l' g i j o' p' a Zv ZS ZJ hg hs=>
  by_cases e:l'=l
  .subst e;rw[ho]at Zv;cases Zv;rw[hp]at ZS;cases ZS;simp only[D.fz,L7,js];cases hc:(Nat.beq g o.gen&&Nat.blt i o.n&&Nat.ble j o.sz)
   .exact .cl _ _ (.undef _)
   .simp only[js,Zy,Wa,Nat.ble_eq,vL]at hc ⊢;obtain⟨b,q,Wb,ha⟩:=hs hc.1.1;obtain⟨c',UT,k1,k2,vs,k3⟩:=BX b q Wb;subst ha;have hlen:((o.row i).drop j).length=o.sz - j:=by rw[Un,k2 i hc.1.2]
    refine .cl _ _ (.ip _ b _ (λk=>vs i (j+k)) (λk hk=>⟨DQ b q Wb,?_⟩) (λk hk=>?_))
    .rw[<- (k3 i (j+k) hc.1.2 ω).1];congr 1;simp
    .rw[Fw];exact(k3 i (j+k) hc.1.2 ω).2
  .have QA:Nat.beq l' l=false:=by rw[<- Ys,Wa];exact e
   simp only[D.fz,QA,YW];obtain⟨u,u1,u2,u3,u4⟩:=hh l' o' e Zv;exact .ptr l' g i j u p' a u1 (by rw[Zh l' e];exact ZS) (by rw[u4];exact ZJ) (by rw[u2];exact hg) (by rw[u2,u3];exact hs)
 | mref l' g o' p' b Zv ZS ZJ hg hs=>
  by_cases e:l'=l
  .subst e;rw[ho]at Zv;cases Zv;exact absurd hk ZJ.1
  .have QA:Nat.beq l' l=false:=by rw[<- Ys,Wa];exact e
   simp only[D.fz,QA,YW];obtain⟨u,u1,u2,u3,u4⟩:=hh l' o' e Zv;exact .mref l' g u p' b u1 (by rw[Zh l' e];exact ZS) (by rw[u4];exact ZJ) (by rw[u2];exact hg) (by rw[u2];exact hs)
 | clo f nf cs vs hl hr ih=>exact .clo f nf _ vs (by rw[vZ];exact hl) (λi hi=>by rw[vZ]at hi;rw[F6 _ _ _ _ _ _ _ hi];exact ih i hi)
 | agg cs vs hl hr ih=>exact .agg _ vs (by rw[vZ];exact hl) (λi hi=>by rw[vZ]at hi;rw[F6 _ _ _ _ _ _ _ hi];exact ih i hi)
 | tup cs vs hl hr ih=>exact .tup _ vs (by rw[vZ];exact hl) (λi hi=>by rw[vZ]at hi;rw[F6 _ _ _ _ _ _ _ hi];exact ih i hi)
end
attribute [go_sem] QbO Rt D.fz kW QmV MX Ob.fz MY Ob.gone
end Go.Fg
namespace Go.Fg
def qM(f:D->D->Prop):List D->List D->Prop
 | [],[]=>True
 | a::r,b::s=>f a b/\qM f r s
 | _,_=>False
def Ke:Nat->D->D->Prop
 | 0,d,d'=>d'=d
 | k+1,d,d'=>match d' with
  | .raw v=>d=.raw v
  | .undef=>True
  | .nil=>d=.nil
  | .imm z n r=>match d with
   | .imm z' n' r'=>z=z'/\n=n'/\∀i,i<n->qM (Ke k) (r' i) (r i)
   | .nil=>n=0
   | _=>False
  | .ip cs=>match d with
   | .ip cs'=>qM (Ke k) cs' cs
   | _=>False
  | .ref l g o n=>d=.ref l g o n
  | .ptr l g i j=>d=.ptr l g i j
  | .mref l g=>d=.mref l g
  | .clo f nf cs=>match d with
   | .clo f' bC cs'=>f=f'/\nf=bC/\qM (Ke k) cs' cs
   | _=>False
  | .agg cs=>match d with
   | .agg cs'=>qM (Ke k) cs' cs
   | _=>False
  | .tup cs=>match d with
   | .tup cs'=>qM (Ke k) cs' cs
   | _=>False
def HZ{f}(h:∀d,f d d):∀l,qM f l l
 | []=>trivial
 | a::r=>⟨h a,HZ h r⟩
def DS:∀(k:Nat) (d:D),Ke k d d
 | 0,_=>rfl
 | k+1,d=>by cases d<;>simp[Ke]<;>first|exact HZ (DS k) _|exact λ_ _=>HZ (DS k) _
theorem QmY(k)(l):qM (Ke k) l l=True:=eq_true (HZ (DS k) l)
def xy{f}:∀{l m:List D},qM f l m->m.length=l.length/\∀i,i<l.length->f (nth l i) (nth m i)
 | [],[],_=>⟨rfl,λi hi=>by simp at hi⟩
 | [],_::_,h=>h.elim
 | _::_,[],h=>h.elim
 | a::r,b::s,h=>by
  obtain⟨h1,h2⟩:=xy h.2;refine⟨by simp[h1],λi hi=>?_⟩;cases i with
  | zero=>exact h.1
  | succ i=>have:=h2 i (by simpa using hi);simpa[nth] using this
def M7:∀(k:Nat) {N:Nat->Prop} {w:World} {d d':D} {v:Value},Ke k d d'->Cl N w d v->Cl N w d' v
 | 0,_,_,d,d',v,h,c=>by have h:d'=d:=h;subst h;exact c
 | k+1,N,w,d,d',v,h,c=>by
  cases d'<;>simp only[Ke]at h;case raw=>subst h;exact c
  case undef=>exact .undef _
  case nil=>subst h;exact c
  case imm z n r=>
   split at h
   .obtain⟨rfl,rfl,h⟩:=h;cases c with
    | imm _ _ _ a cap b o vs ha hl hs hc hr=>
     exact .imm _ _ _ a cap b o vs ha hl (λi hi=>by rw[(xy (h i hi)).1];exact hs i hi) hc (λi j hi hj=>M7 k ((xy (h i hi)).2 j (by rw[hs i hi];exact hj)) (hr i j hi hj))
   .subst h;cases c with
    | nil a=>exact .imm _ _ _ _ _ 0 0 (λ_ _=>Go.undef) (λh=>ω) ω (λi hi=>ω) (λi j hi=>ω) (λi j hi=>ω)
   .exact h.elim
  case ip cs=>
   split at h
   .obtain⟨h1,h2⟩:=xy h;cases c with
    | ip _ b o vs hc hr=>exact .ip _ b o vs (λj hj=>hc j ω) (λj hj=>M7 k (h2 j ω) (hr j ω))
   .exact h.elim
  case ref=>subst h;exact c
  case ptr=>subst h;exact c
  case mref=>subst h;exact c
  case clo f nf cs=>
   split at h
   .obtain⟨rfl,rfl,h⟩:=h;obtain⟨h1,h2⟩:=xy h;cases c with
    | clo _ _ _ vs hl hr=>exact .clo _ _ _ vs ω (λj hj=>M7 k (h2 j ω) (hr j ω))
   .exact h.elim
  case agg cs=>
   split at h
   .obtain⟨h1,h2⟩:=xy h;cases c with
    | agg _ vs hl hr=>exact .agg _ vs ω (λj hj=>M7 k (h2 j ω) (hr j ω))
   .exact h.elim
  case tup cs=>
   split at h
   .obtain⟨h1,h2⟩:=xy h;cases c with
    | tup _ vs hl hr=>exact .tup _ vs ω (λj hj=>M7 k (h2 j ω) (hr j ω))
   .exact h.elim
def v8:∀(k:Nat) {Z:Nat->Prop} {h:List Ob} {pl:List Pl} {w:World} {d d':D} {v:Value},Ke k d d'->QC Z h pl w d v->QC Z h pl w d' v
 | 0,_,_,_,_,d,d',v,e,c=>by have e:d'=d:=e;subst e;exact c
 | k+1,Z,h,pl,w,d,d',v,e,c=>by
  cases c with
  | cl _ _ hc=>exact .cl _ _ (M7 (k+1) e hc)
  | ref l g off len o p a cap ho hp hk hg hs=>
   cases d'<;>simp only[Ke,reduceCtorEq]at e
   .exact .cl _ _ (.undef _)
   .cases e;exact .ref l g off len o p a cap ho hp hk hg hs
  | ptr l g i j o p a ho hp hk hg hs=>
   cases d'<;>simp only[Ke,reduceCtorEq]at e
   .exact .cl _ _ (.undef _)
   .cases e;exact .ptr l g i j o p a ho hp hk hg hs
  | mref l g o p b ho hp hk hg hs=>
   cases d'<;>simp only[Ke,reduceCtorEq]at e
   .exact .cl _ _ (.undef _)
   .cases e;exact .mref l g o p b ho hp hk hg hs
  | clo f nf cs vs hl hr=>
   cases d'<;>simp only[Ke,reduceCtorEq]at e
   .exact .cl _ _ (.undef _)
   .obtain⟨rfl,rfl,e⟩:=e;obtain⟨h1,h2⟩:=xy e;exact .clo _ _ _ vs ω (λj hj=>v8 k (h2 j ω) (hr j ω))
  | agg cs vs hl hr=>
   cases d'<;>simp only[Ke,reduceCtorEq]at e
   .exact .cl _ _ (.undef _)
   .obtain⟨h1,h2⟩:=xy e;exact .agg _ vs ω (λj hj=>v8 k (h2 j ω) (hr j ω))
  | tup cs vs hl hr=>
   cases d'<;>simp only[Ke,reduceCtorEq]at e
   .exact .cl _ _ (.undef _)
   .obtain⟨h1,h2⟩:=xy e;exact .tup _ vs ω (λj hj=>v8 k (h2 j ω) (hr j ω))
def Told(R:D->List Ob->Prop)(d:D)(h:List Ob):Prop:=∃d',Ke 6 d d'/\R d' h
def QH.QbQ{P}{f}{F}{cs' cs}{R}(h:QH P f F cs R)(e:qM (Ke 6) cs' cs):QH P f F cs' R:=λZ base w pl vs h1 h2 h3 hl hc=>by
 obtain⟨e1,e2⟩:=xy e;exact h Z base w pl vs h1 h2 h3 ω λi hi=>v8 6 (e2 i ω) (hc i ω)
def Na(fr:List (Nat × D)):List (Nat × D)->Prop
 | []=>True
 | (t,d)::r=>Ke 6 (get fr t) d/\Na fr r
def bD(o o':Ob):Prop:=o'.gen=o.gen/\o'.sz=o.sz/\o'.n=o.n/\o'.kd.P6 o.kd/\∀i,i<o.n->qM (Ke 6) (o.row i) (o'.row i)
def Nb:List Ob->List Ob->Prop
 | [],[]=>True
 | o::r,o'::r'=>bD o o'/\Nb r r'
 | _,_=>False
section
variable {k:Nat}{d:D}
theorem QmZ:Ke k d d=True:=eq_true (DS k d)
theorem Qm0{v}:Ke (k+1) d (.raw v)=(d=.raw v):=rfl
theorem Qm1:Ke (k+1) d .undef=True:=rfl
theorem Qm2:Ke (k+1) d .nil=(d=.nil):=rfl
theorem bE{z n z' n'}{r r'}:Ke (k+1) (.imm z' n' r') (.imm z n r)=(z=z'/\n=n'/\∀i,i<n->qM (Ke k) (r' i) (r i)):=rfl
theorem Qm3{z n}{r}:Ke (k+1) .nil (.imm z n r)=(n=0):=rfl
theorem Qm4{l g o n}:Ke (k+1) d (.ref l g o n)=(d=.ref l g o n):=rfl
theorem Qm5{l g i j}:Ke (k+1) d (.ptr l g i j)=(d=.ptr l g i j):=rfl
theorem Qm6{l g}:Ke (k+1) d (.mref l g)=(d=.mref l g):=rfl
theorem Qm7{cs cs'}:Ke (k+1) (.ip cs') (.ip cs)=qM (Ke k) cs' cs:=rfl
theorem Qm8{f f'}{nf bC}{cs cs'}:Ke (k+1) (.clo f' bC cs') (.clo f nf cs)=(f=f'/\nf=bC/\qM (Ke k) cs' cs):=rfl
theorem Qm9{cs cs'}:Ke (k+1) (.agg cs') (.agg cs)=qM (Ke k) cs' cs:=rfl
theorem Qna{cs cs'}:Ke (k+1) (.tup cs') (.tup cs)=qM (Ke k) cs' cs:=rfl
theorem Qnb{f}:qM f [] []=True:=rfl
theorem Qnc{f}{a b}{r s}:qM f (a::r) (b::s)=(f a b/\qM f r s):=rfl
end
attribute [go_sem] QmZ Qm0 Qm1 Qm2 bE Qm3 Qm4 Qm5 Qm6 Qm7 Qm8 Qm9 Qna Qnb Qnc QmY Na bD Nb
end Go.Fg
