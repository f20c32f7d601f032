/- Contracts and laws on the way to the statement. No conditions. -/
import Derived.Test.YtagebhlinnibkaaGreatFgMapHE
import Derived.Scope
import Derived.OrdersHeld
set_option maxRecDepth 100000
set_option maxHeartbeats 16000000
set_option linter.unusedVariables false
set_option linter.unusedSimpArgs false
set_option linter.unusedSectionVars false
set_option linter.defProp false
namespace Go.Fg
open Go.RowKit (Below)
variable {Z:Nat->Prop}
structure Cx where
 L:Jt
 E:Er
def Ai(X:Cx)(s:St):Op->Ev
 | .move x=>some (True,Qt s.fr x)
 | .assign x=>some (True,Qt s.fr x)
 | .pick c x y=>match Qt s.fr c with
  | .raw (.bool b)=>some (True,bif b then Qt s.fr x else Qt s.fr y)
  | _=>none
 | .binOp op t x y _=>match fg X.L op t (Qt s.fr x) (Qt s.fr y) with
  | some r=>some r
  | none=>fG X.E op t (Qt s.fr x) (Qt s.fr y)
 | .unOp u _ x=>match u,Qt s.fr x with
  | .not,.raw (.bool b)=>some (True,.raw (.bool (!b)))
  | .neg,.raw (.int k n)=>some (True,.raw (.int k (k.wrap (0 - n))))
  | .xor,.raw (.int k n)=>some (True,.raw (.int k (bits .xor k (if k.signed then -1 else k.max) n)))
  | _,_=>none
 | .convert a b x=>fo X.L a b (Qt s.fr x)
 | .build t parts=>match fx X.L s.fr t parts.toList with
  | some d=>some (True,d)
  | none=>none
 | .load t x=>Mv X.L s.h t (Qt s.fr x)
 | .nilCheck x=>bif (Qt s.fr x).there then some (True,Qt s.fr x) else none
 | .fieldAddr t x f=>fi X.L t f (Qt s.fr x)
 | .field t x f=>fj X.L t f (Qt s.fr x)
 | .indexAddr t x i=>fk X.L s.h t (Qt s.fr x) (Qt s.fr i)
 | .index t x i=>fm X.L t (Qt s.fr x) (Qt s.fr i)
 | .extract x i=>match Qt s.fr x with
  | .tup cs=>some (i<cs.length,nth cs i)
  | _=>none
 | .slice t x lo hi mx=>match mx with
  | none=>fB X.L s.fr s.h t (Qt s.fr x) lo hi
  | some _=>none
 | .makeFunc fn first QI=>match fn,first with
  | .func f,⟨fs⟩=>some (True,.clo f fs.length ((fs++QI.toList).map (Qt s.fr)))
  | _,_=>none
 | .call ⟨.builtin b,⟨args⟩,⟨Jm⟩⟩=>match b,args,Jm with
  | .len,[x],[t]=>match fp X.L t (Qt s.fr x) with
   | some r=>some r
   | none=>fR X.L s.h t (Qt s.fr x)
  | .max,[x,y],_=>match Qt s.fr x,Qt s.fr y with
   | .raw (.int k m),.raw (.int _ n)=>some (True,.raw (.int k (max m n)))
   | _,_=>none
  | .min,[x,y],_=>match Qt s.fr x,Qt s.fr y with
   | .raw (.int k m),.raw (.int _ n)=>some (True,.raw (.int k (min m n)))
   | _,_=>none
  | _,_,_=>none
 | .lookup t x i ok=>match fQ X.L s.h t (Qt s.fr x) (Qt s.fr i) ok with
  | some r=>some r
  | none=>bif ok then fW X.L X.E s.h t (Qt s.fr x) (Qt s.fr i) else none
 | _=>none
structure zB (P:Program) (X:Cx):Prop where
 L:Jq P X.L
 E:Bq P X.E
def Qe4{P}{X}(hX:zB P X){base nt}{s}{o:Oper}{p}{d}(h:Ai X s o.op=some (p,d))(hp:p):WE P base nt o s d:=by
 unfold Ai at h;split at h;case h_1 x ho=>simp only[Za,Zp]at h;obtain⟨rfl,rfl⟩:=h;exact Qei (.inl ho)
 case h_2 x ho=>simp only[Za,Zp]at h;obtain⟨rfl,rfl⟩:=h;exact Qei (.inr ho)
 case h_3 c x y ho=>
  split at h
  ·rename_i b hc;simp only[Za,Zp]at h;obtain⟨rfl,rfl⟩:=h;exact Qpj ho hc
  ·cases h
 case h_4 op t x y yt ho=>
  split at h
  ·rename_i r hr;simp only[Za]at h;subst h;exact Qpi hX.L ho hr hp
  ·exact QpS hX.E ho h
 case h_5 u t x ho=>
  split at h
  ·rename_i b hx;simp only[Za,Zp]at h;obtain⟨rfl,rfl⟩:=h;exact Qpr ho rfl hx
  ·rename_i k n hx;simp only[Za,Zp]at h;obtain⟨rfl,rfl⟩:=h;exact Qps ho rfl hx
  ·rename_i k n hx;simp only[Za,Zp]at h;obtain⟨rfl,rfl⟩:=h;exact Qpt ho rfl hx
  ·cases h
 case h_6 a b x ho=>exact Qpv hX.L ho h
 case h_7 t parts ho=>
  split at h
  ·rename_i dd hd;simp only[Za,Zp]at h;obtain⟨rfl,rfl⟩:=h;exact QpN hX.L ho hd
  ·cases h
 case h_8 t x ho=>exact Qel hX.L ho h hp
 case h_9 x ho=>
  obtain⟨ht,h2⟩:=kD h;simp only[Za,Zp]at h2;obtain⟨rfl,rfl⟩:=h2;exact Qpu ho rfl ht
 case h_10 t x f ho=>exact Qpk hX.L ho h hp
 case h_11 t x f ho=>exact Qpl hX.L ho h hp
 case h_12 t x i ho=>exact Qpo hX.L ho h hp
 case h_13 t x i ho=>exact Qpp hX.L ho h hp
 case h_14 x i ho=>
  split at h
  ·rename_i cs hx;simp only[Za,Zp]at h;obtain⟨rfl,rfl⟩:=h;exact Qpq ho hx hp
  ·cases h
 case h_15 t x lo hi mx ho=>
  split at h
  ·exact QpR hX.L ho h hp
  ·cases h
 case h_16 fn first QI ho=>
  split at h
  ·simp only[Za,Zp]at h;obtain⟨rfl,rfl⟩:=h;exact Qpy ho
  ·cases h
 case h_17 b args Jm ho=>
  split at h
  ·split at h
   ·rename_i r hr;simp only[Za]at h;subst h;exact fq hX.L ho hr
   ·exact Qp8 hX.L ho rfl h hp
  ·split at h
   ·rename_i k m k' n hx hy;simp only[Za,Zp]at h;obtain⟨rfl,rfl⟩:=h;exact Qpw ho hx hy
   ·cases h
  ·split at h
   ·rename_i k m k' n hx hy;simp only[Za,Zp]at h;obtain⟨rfl,rfl⟩:=h;exact Qpx ho hx hy
   ·cases h
  ·cases h
 case h_18 t x i ok ho=>
  split at h
  ·rename_i r hr;simp only[Za]at h;subst h;exact look_ok hX.L ho hr hp
  ·obtain⟨rfl,h2⟩:=kD h;exact Qqn hX.L hX.E ho h2 hp
 case h_19=>cases h
def Bt(X:Cx)(s:St):Op->Option (Prop × List Ob × D)
 | .alloc t=>match ty X.L t with
  | some y=>some (True,s.h++[⟨.one,0,(y.zero.map Kq).length,1,λ_=>y.zero.map Kq⟩],.ptr s.h.length 0 0 0)
  | none=>none
 | .box _ x=>match YR (Qt s.fr x) with
  | some cs=>some (True,s.h++[⟨.one,0,cs.length,1,λ_=>cs⟩],.ptr s.h.length 0 0 0)
  | none=>none
 | .store t a x=>match TP X.L s.h t (Qt s.fr a) (Qt s.fr x) with
  | some (p,h')=>some (p,h',.undef)
  | none=>none
 | .buildSlice t len parts=>fy X.L s.fr s.h t len parts.toList
 | .call ⟨.builtin b,⟨args⟩,⟨Jm⟩⟩=>match b,args,Jm with
  | .append,[x,y],[t,t']=>bif Nat.beq t t' then El X.L s.h t (Qt s.fr x) (Qt s.fr y) else none
  | .delete,[x,i],[t,_]=>match fT X.L s.h t (Qt s.fr x) (Qt s.fr i) with
   | some (p,h')=>some (p,h',.tup [])
   | none=>none
  | _,_,_=>none
 | .makeMap t rz=>match rz with
  | none=>Pe X.L s.h t
  | some (.const (.int _ n))=>bif decide (0<=n) then Pe X.L s.h t else none
  | some _=>none
 | .mapUpdate t x i v=>match HY X.L s.h t (Qt s.fr x) (Qt s.fr i) (Qt s.fr v) with
  | some (p,h')=>some (p,h',.undef)
  | none=>match fX X.L X.E s.h t (Qt s.fr x) (Qt s.fr i) (Qt s.fr v) with
   | some (p,h')=>some (p,h',.undef)
   | none=>none
 | .range t x=>fU X.L s.h t (Qt s.fr x)
 | _=>none
def Qqp{L}{h}{t:TypeId}{s x}{r}(e:El L h t s x=some r):s=.nil\/∃l g off len,s=.ref l g off len:=by
 unfold El at e;split at e
 ·split at e
  ·exact .inl rfl
  ·exact .inr ⟨_,_,_,_,rfl⟩
  ·cases e
 ·cases e
def Qe5{P}{X}(hX:zB P X){base nt}{s}{o:Oper}{p}{h'}{d}(h:Bt X s o.op=some (p,h',d))(hp:p):kE P base nt o s h' d:=by
 unfold Bt at h;split at h;case h_1 t ho=>
  split at h
  ·rename_i y hy;simp only[Za,Zp]at h;obtain⟨rfl,rfl,rfl⟩:=h;exact QpE hX.L ho hy
  ·cases h
 case h_2 t x ho=>
  split at h
  ·rename_i cs hc;simp only[Za,Zp]at h;obtain⟨rfl,rfl,rfl⟩:=h;exact QpD ho hc
  ·cases h
 case h_3 t a x ho=>
  split at h
  ·rename_i p' qO hs;simp only[Za,Zp]at h;obtain⟨rfl,rfl,rfl⟩:=h;exact QpC hX.L ho hs hp
  ·cases h
 case h_4 t len parts ho=>exact QpO hX.L ho h hp
 case h_5 b args Jm ho=>
  split at h
  ·obtain⟨ht,h2⟩:=kD h;have ht:=Tz ht;subst ht;rcases Qqp h2 with e|⟨l,g,off,len,e⟩
   ·rw[e]at h2;exact QpJ hX.L ho e h2 hp
   ·rw[e]at h2;exact QpK hX.L ho e h2 hp
  ·split at h
   ·rename_i p' qO hs;simp only[Za,Zp]at h;obtain⟨rfl,rfl,rfl⟩:=h;exact Qqa hX.L ho hs hp
   ·cases h
  ·cases h
 case h_6 t rz ho=>
  split at h
  ·exact QeM hX.L (.inl rfl) ho h
  ·rename_i k n;obtain⟨hn,h2⟩:=kD h;exact QeM hX.L (.inr ⟨k,n,rfl,Wc hn⟩) ho h2
  ·cases h
 case h_7 t x i v ho=>
  split at h
  ·rename_i p' qO hs;simp only[Za,Zp]at h;obtain⟨rfl,rfl,rfl⟩:=h;exact Qp9 hX.L ho hs hp
  ·split at h
   ·rename_i p' qO hs;simp only[Za,Zp]at h;obtain⟨rfl,rfl,rfl⟩:=h;exact Qqo hX.L hX.E ho hs hp
   ·cases h
 case h_8 t x ho=>exact Qqd hX.L ho h hp
 case h_9=>cases h
abbrev G:=Option (Option Nat × Bool)
def guardOf(ops:Array Oper)(o:Oper):G:=match o.guard with
 | none=>none
 | some (j,b)=>some ((ops[j]?).bind (·.dst),b)
def strip(o : Oper): Oper := ⟨o.dst, o.op, o.type, "", #[], none⟩
theorem Qqq{P}{o:Oper}{a}{w}{K}{Q}:(strip o).wp P a w K Q=o.wp P a w K Q:=rfl
def CM(ops:Array Oper):List (Oper × G):=ops.toList.map λo=>(strip o,guardOf ops o)
def Pg(tmps:Array Value)(t:Nat):Option Bool:=match tmps[t]? with
 | some (.bool b)=>some b
 | _=>none
def XB(g:G)(tmps:Array Value):Bool:=match g with
 | none=>true
 | some (none,_)=>false
 | some (some t,b)=>Pg tmps t==some b
def Ph(ops)(o)(tmps):Region.wanted o (yielded ops tmps)=XB (guardOf ops o) tmps:=by
 unfold Region.wanted guardOf XB;cases hg:o.guard with
 | none=>rfl
 | some jb=>
  obtain⟨j,b⟩:=jb;dsimp only;cases hd:(ops[j]?).bind (·.dst) with
  | none=>simp[yielded,hd]
  | some t=>
   simp only[yielded,hd,eU,Pg];cases ht:tmps[t]? with
   | none=>rfl
   | some v=>cases v<;>rfl
def qn(P:Program)(Q:Exit->Act->World->Prop):List (Oper × G)->Act->World->Prop
 | [],a,w=>Q .normal a w
 | (o,g)::r,a,w=>if XB g a.tmps=true then o.wp P a w (qn P Q r) Q else qn P Q r (a.put o.dst Go.undef) w
def rU{P}{ops:Array Oper}{Q}:∀(n i:Nat) (a:Act) (w:World),i+n=ops.size->qn P Q ((CM ops).drop i) a w->wpOps P ops Q (List.range' i n) a w
 | 0,i,a,w,hi,h=>by
  have:(CM ops).drop i=[]:=dY (by simp[CM];omega);rw[this]at h;exact h
 | n+1,i,a,w,hi,h=>by
  have Qc:i<ops.size:=by omega
  have hd:(CM ops).drop i=(strip ops[i],guardOf ops ops[i])::(CM ops).drop (i+1):=by
   rw[Tl (by simp[CM];omega)];simp[CM]
  rw[hd]at h;rw[List.range'_succ];simp only[wpOps,kv Qc,Ph];simp only[qn]at h;split at h
  ·rename_i hw;rw[Qf hw];refine .inl ?_;have mono:∀(K K':Act->World->Prop),(∀a w,K a w->K' a w)->ops[i].wp P a w K Q->ops[i].wp P a w K' Q:=by
    intro K K' hk hh;unfold Oper.wp at *;generalize (execOp a.eval ops[i]).run P w=r at *;cases r with
    | ok x w'=>
     cases x<;>simp only[Oper.upon]at hh ⊢<;>first|exact hk _ _ hh|exact hh|skip
     ·exact hh.mono λe Ms he=>by cases e<;>first|exact hk _ _ he|exact he
     ·exact hh.mono λv Ms he=>hk _ _ he
    | halt x w'=>cases x<;>exact hh
   rw[Qqq]at h;exact mono _ _ (λa w=>rU n (i+1) a w (by omega)) h
  ·rename_i hw;rw[Qd hw];exact rU n (i+1) _ w (by omega) h
def Qqr{P}{id}{ops}{Q}{a}{w}(h:qn P Q (CM ops) a w):(Code.region id ops false).wp P Q a w:=
 wp_region (by rw[List.range_eq_range'];exact rU ops.size 0 a w (by omega) (by simpa using h))
structure Start where
 w:World
 F:List Ob
 pl:List Pl
structure ML (Z:Nat->Prop) (w0:Start) (pl:List Pl) (w:World):Prop where
 new:∀b,w.heap.size<=b->Z b
 own:∀(l b q:Nat),pl[l]? = some (some (b,q))->w0.w.heap.size<=b->Z b
def ML.step{Z}{w0}{h h'}{pl Qm}{w w':World}(S:ML Z w0 pl w)(T:Tr h pl w h' Qm w')(hs:w.heap.size<=w'.heap.size):ML Z w0 Qm w' where
 new:=λb hb=>S.new b (by omega)
 own:=λl b q e h0=>by
  rcases Bb b w.heap.size with Qc|XP
  ·by_cases ha:XN pl b
   ·exact absurd e ((T.KE b ha Qc).1 l q)
   ·obtain⟨l1,h1⟩:=OL.1 ha;obtain⟨q1,h2⟩:=OL.1 h1;exact S.own l1 b q1 (Classical.not_not.1 h2) h0
  ·exact S.new b XP
def ML.start{Z}{base}{w0:Start}{h}{pl}(R:Zv Z base h pl w0.w)(hz:∀b,w0.w.heap.size<=b->Z b):ML Z w0 pl w0.w where
 new:=hz
 own:=λl b q e h0=>absurd (R.lt e).1 (by omega)
def Vp(Z:Nat->Prop)(base:Nat)(w0:Start)(h:List Ob)(pl:List Pl)(w:World):Prop:=Below base w0.w w/\Tr w0.F w0.pl w0.w h pl w/\ML Z w0 pl w
def Vp.step{Z}{base}{w0}{h h'}{pl Qm}{w w'}(S:Vp Z base w0 h pl w)(T:Tr h pl w h' Qm w')(b:Below base w w'):Vp Z base w0 h' Qm w':=⟨S.1.trans b,S.2.1.trans T,S.2.2.step T b.size⟩
section
variable (P:Program)(base nt:Nat)(w0:Start)
def TZ(_:Start)(_:Nat->Prop):Prop:=True
def lift(Z:Nat->Prop)(Q:Exit->St->Prop)(e:Exit)(a:Act)(w:World):Prop:=∃s pl,Q e s/\Rel Z base nt s pl a w/\Vp Z base w0 s.h pl w
def A(c:Code)(Q:Exit->St->Prop)(s:St):Prop:=∀(Z:Nat->Prop),TZ w0 Z->∀pl a w,Rel Z base nt s pl a w->Vp Z base w0 s.h pl w->c.wp P (lift base nt w0 Z Q) a w
def AG(l:List (Oper × G))(Q:Exit->St->Prop)(s:St):Prop:=∀(Z:Nat->Prop),TZ w0 Z->∀pl a w,Rel Z base nt s pl a w->Vp Z base w0 s.h pl w->qn P (lift base nt w0 Z Q) l a w
end
inductive Item where
 | code (c:Code)
 | ops (l:List (Oper × G))
 | inBlock (id:Nat)
 | inScope
def QA(P:Program)(base nt:Nat)(w0:Start)(Q:Exit->St->Prop):List Item->Exit->St->Prop
 | [],e,s=>Q e s
 | .code c::k,.normal,s=>A P base nt w0 c (QA P base nt w0 Q k) s
 | .code _::k,e,s=>QA P base nt w0 Q k e s
 | .ops l::k,.normal,s=>AG P base nt w0 l (QA P base nt w0 Q k) s
 | .ops _::k,e,s=>QA P base nt w0 Q k e s
 | .inBlock id::k,.exit j,s=>if j=id then QA P base nt w0 Q k .normal s else QA P base nt w0 Q k (.exit j) s
 | .inBlock _::k,e,s=>QA P base nt w0 Q k e s
 | .inScope::_,.goto _,_=>False
 | .inScope::k,e,s=>QA P base nt w0 Q k e s
inductive Tree where
 | done (e:Exit) (s:St)
 | stop (k:List Item) (s:St)
 | vc (p:Prop) (t:Tree)
 | ite (b:Bool) (t e:Tree)
 | fail
def Tree.holds(P:Program)(base nt:Nat)(w0:Start)(Q:Exit->St->Prop):Tree->Prop
 | .done e s=>Q e s
 | .stop k s=>QA P base nt w0 Q k .normal s
 | .vc p t=>p/\t.holds P base nt w0 Q
 | .ite b t e=>(b=true->t.holds P base nt w0 Q)/\(b=false->e.holds P base nt w0 Q)
 | .fail=>False
def kH(id:Nat):List Item->Option (List Item)
 | []=>none
 | .inBlock j::k=>bif Nat.beq id j then some k else kH id k
 | _::k=>kH id k
def ZC(fr:List (Nat × D))(t:Option Nat)(d:D):List (Nat × D):=match t with
 | none=>fr
 | some t=>put fr t d
def ZQ(nt:Nat):Option Nat->Bool
 | none=>true
 | some t=>Nat.blt t nt
def F4:Bool->Bool->Bool
 | true,x=>x
 | false,x=>!x
def Qe6(b x):F4 b x=(x==b):=by cases b<;>cases x<;>rfl
def exec(X:Cx)(nt:Nat):Nat->List Item->St->Tree
 | 0,k,s=>.stop k s
 | _+1,[],s=>.done .normal s
 | n+1,.inBlock _::k,s=>exec X nt n k s
 | n+1,.inScope::k,s=>exec X nt n k s
 | n+1,.code c::k,s=>match c with
  | .skip=>exec X nt n k s
  | .label _=>exec X nt n k s
  | .seq a b=>exec X nt n (.code a::.code b::k) s
  | .cond c a b=>match Qt s.fr c with
   | .raw (.bool x)=>.ite x (exec X nt n (.code a::k) s) (exec X nt n (.code b::k) s)
   | _=>.fail
  | .block id c=>exec X nt n (.code c::.inBlock id::k) s
  | .scope c=>exec X nt n (.code c::.inScope::k) s
  | .exit id=>match kH id k with
   | some k'=>exec X nt n k' s
   | none=>.done (.exit id) s
  | .ret=>.done .ret s
  | .region id ops dr=>bif dr then .stop (.code (.region id ops dr)::k) s else exec X nt n (.ops (CM ops)::k) s
  | c=>.stop (.code c::k) s
 | n+1,.ops []::k,s=>exec X nt n k s
 | n+1,.ops ((o,g)::r)::k,s=>match g with
  | none=>match Ai X s o.op with
   | some (p,d)=>bif ZQ nt o.dst then .vc p (exec X nt n (.ops r::k) ⟨ZC s.fr o.dst d,s.h⟩) else .fail
   | none=>match Bt X s o.op with
    | some (p,h',d)=>bif ZQ nt o.dst then .vc p (exec X nt n (.ops r::k) ⟨ZC s.fr o.dst d,h'⟩) else .fail
    | none=>.stop (.ops ((o,none)::r)::k) s
  | some (none,_)=>bif ZQ nt o.dst then exec X nt n (.ops r::k) ⟨ZC s.fr o.dst (.raw Go.undef),s.h⟩ else .fail
  | some (some t,b)=>match get s.fr t with
   | .raw (.bool x)=>.ite (F4 b x) (exec X nt n (.ops ((o,none)::r)::k) ⟨put s.fr t (.raw (.bool b)),s.h⟩)
     (bif ZQ nt o.dst then exec X nt n (.ops r::k) ⟨ZC (put s.fr t (.raw (.bool (!b)))) o.dst (.raw Go.undef),s.h⟩ else .fail)
   | .raw (.tuple _)=>bif ZQ nt o.dst then exec X nt n (.ops r::k) ⟨ZC s.fr o.dst (.raw Go.undef),s.h⟩ else .fail
   | _=>.fail
section
variable {P:Program}{base nt:Nat}{w0:Start}{Q:Exit->St->Prop}
def A.mono{c}{Q Q'}{s}(h:A P base nt w0 c Q s)(hq:∀e s,Q e s->Q' e s):A P base nt w0 c Q' s:=
 λZ z pl a w r b=>wp_mono (h Z z pl a w r b) λ_ _ _ ⟨s',Qm,h1,h2,h3⟩=>⟨s',Qm,hq _ _ h1,h2,h3⟩
def Qqs{x y}{s}(h:A P base nt w0 x (λe s'=>match e with | .normal=>A P base nt w0 y Q s'|e=>Q e s') s):A P base nt w0 (.seq x y) Q s:=by
 intro Z z pl a w r b;refine wp_seq (wp_mono (h Z z pl a w r b) λe a' w' hh=>?_);obtain⟨s',Qm,h1,h2,h3⟩:=hh;cases e with
 | normal=>exact h1 Z z Qm a' w' h2 h3
 | exit id=>exact⟨s',Qm,h1,h2,h3⟩
 | goto l=>exact⟨s',Qm,h1,h2,h3⟩
 | ret=>exact⟨s',Qm,h1,h2,h3⟩
 | panic ch=>exact⟨s',Qm,h1,h2,h3⟩
 | outgrown=>exact⟨s',Qm,h1,h2,h3⟩
def Qqt{id}{c}{s}(h:A P base nt w0 c (λe s'=>match e with | .exit j=>if j=id then Q .normal s' else Q (.exit j) s'|e=>Q e s') s):A P base nt w0 (.block id c) Q s:=by
 intro Z z pl a w r b;refine wp_block (wp_mono (h Z z pl a w r b) λe a' w' hh=>?_);obtain⟨s',Qm,h1,h2,h3⟩:=hh;cases e with
 | exit j=>
  simp only[Exit.inBlock];dsimp only at h1;split
  ·rename_i hj;rw[Qf hj]at h1;exact⟨s',Qm,h1,h2,h3⟩
  ·rename_i hj;rw[Qd hj]at h1;exact⟨s',Qm,h1,h2,h3⟩
 | normal=>exact⟨s',Qm,h1,h2,h3⟩
 | goto l=>exact⟨s',Qm,h1,h2,h3⟩
 | ret=>exact⟨s',Qm,h1,h2,h3⟩
 | panic ch=>exact⟨s',Qm,h1,h2,h3⟩
 | outgrown=>exact⟨s',Qm,h1,h2,h3⟩
def Qqu{c}{s}(h:A P base nt w0 c (λe s'=>match e with | .goto _=>False|e=>Q e s') s):A P base nt w0 (.scope c) Q s:=by
 intro Z z pl a w r b;refine wp_scope_straight (wp_mono (h Z z pl a w r b) λe a' w' hh=>?_);obtain⟨s',Qm,h1,h2,h3⟩:=hh;cases e with
 | goto l=>exact h1.elim
 | normal=>exact⟨s',Qm,h1,h2,h3⟩
 | exit j=>exact⟨s',Qm,h1,h2,h3⟩
 | ret=>exact⟨s',Qm,h1,h2,h3⟩
 | panic ch=>exact⟨s',Qm,h1,h2,h3⟩
 | outgrown=>exact⟨s',Qm,h1,h2,h3⟩
def Qqv{c}{k}{s}(h:QA P base nt w0 Q (.code c::.inScope::k) .normal s):QA P base nt w0 Q (.code (.scope c)::k) .normal s:=by
 simp only[QA]at h ⊢;refine Qqu (h.mono λe s' he=>?_);cases e<;>exact he
def Yu{a b}{k}{s}(h:QA P base nt w0 Q (.code a::.code b::k) .normal s):QA P base nt w0 Q (.code (.seq a b)::k) .normal s:=by
 simp only[QA]at h ⊢;refine Qqs (h.mono λe s' he=>?_);cases e<;>exact he
def Qqw{id}{c}{k}{s}(h:QA P base nt w0 Q (.code c::.inBlock id::k) .normal s):QA P base nt w0 Q (.code (.block id c)::k) .normal s:=by
 simp only[QA]at h ⊢;refine Qqt (h.mono λe s' he=>?_);cases e<;>exact he
def Qqx{c}{x y}{k}{s:St}{t}(hc:Qt s.fr c=.raw (.bool t))(h1:t=true->QA P base nt w0 Q (.code x::k) .normal s)(h2:t=false->QA P base nt w0 Q (.code y::k) .normal s):
  QA P base nt w0 Q (.code (.cond c x y)::k) .normal s:=by
 simp only[QA]at h1 h2 ⊢;intro Z z pl a w r b;have he:=r.eval c;rw[hc]at he;have:=JG he;cases t
 ·exact wp_cond_false this (h2 rfl Z z pl a w r b)
 ·exact wp_cond_true this (h1 rfl Z z pl a w r b)
def Ua{id}:∀{k k':List Item} {s:St},kH id k=some k'->QA P base nt w0 Q k' .normal s->QA P base nt w0 Q k (.exit id) s
 | [],k',s,h,_=>by simp[kH]at h
 | .code c::k,k',s,h,hk=>by simp only[kH]at h;simp only[QA];exact Ua h hk
 | .ops c::k,k',s,h,hk=>by simp only[kH]at h;simp only[QA];exact Ua h hk
 | .inScope::k,k',s,h,hk=>by simp only[kH]at h;simp only[QA];exact Ua h hk
 | .inBlock j::k,k',s,h,hk=>by
  simp only[kH]at h;simp only[QA];by_cases hj:id=j
  ·subst hj;simp at h;subst h;rw[Qf rfl];exact hk
  ·have:Nat.beq id j=false:=by rw[<- qb,Wp];exact hj
   rw[this]at h;rw[Qd hj];exact Ua h hk
def Ub{id}:∀{k:List Item} {s:St},kH id k=none->Q (.exit id) s->QA P base nt w0 Q k (.exit id) s
 | [],s,_,hq=>hq
 | .code c::k,s,h,hq=>by simp only[kH]at h;simp only[QA];exact Ub h hq
 | .ops c::k,s,h,hq=>by simp only[kH]at h;simp only[QA];exact Ub h hq
 | .inScope::k,s,h,hq=>by simp only[kH]at h;simp only[QA];exact Ub h hq
 | .inBlock j::k,s,h,hq=>by
  simp only[kH]at h;simp only[QA];by_cases hj:id=j
  ·subst hj;simp at h
  ·have:Nat.beq id j=false:=by rw[<- qb,Wp];exact hj
   rw[this]at h;rw[Qd hj];exact Ub h hq
def Uc:∀{k:List Item} {s:St},Q .ret s->QA P base nt w0 Q k .ret s
 | [],_,hq=>hq
 | .code _::_,_,hq=>by simp only[QA];exact Uc hq
 | .ops _::_,_,hq=>by simp only[QA];exact Uc hq
 | .inBlock _::_,_,hq=>by simp only[QA];exact Uc hq
 | .inScope::_,_,hq=>by simp only[QA];exact Uc hq
def kI{t}(h:ZQ nt (some t)=true):t<nt:=by simpa[ZQ,xU] using h
def Rel.skip{s:St}{pl}{a:Act}{w}(r:Rel Z base nt s pl a w){t}(ht:ZQ nt t=true):Rel Z base nt ⟨ZC s.fr t (.raw Go.undef),s.h⟩ pl (a.put t Go.undef) w:=by
 cases t with
 | none=>exact r
 | some t=>exact r.to (Tr.ext r.o λ_ _=>rfl) r.o (kI ht) (.cl _ _ (.raw _))
def rV{o:Oper}{rest}{s:St}{d}(h:WE P base nt o s d)(ht:ZQ nt o.dst=true)(hk:AG P base nt w0 rest Q ⟨ZC s.fr o.dst d,s.h⟩):AG P base nt w0 ((o,none)::rest) Q s:=by
 intro Z z pl a w r b;obtain⟨v,hv,Zl⟩:=h Z pl a w r;simp only[qn,XB,K6];unfold Oper.wp;rw[Zl w λ_ _=>rfl];simp only[Oper.upon_value];refine hk Z z pl _ w ?_ b;cases hd:o.dst with
 | none=>exact r
 | some t=>rw[hd]at ht;exact r.to (Tr.ext r.o λ_ _=>rfl) r.o (kI ht) hv
def fY(Zd:base<=w0.w.heap.size){o:Oper}{rest}{s:St}{h'}{d}(h:kE P base nt o s h' d)(ht:ZQ nt o.dst=true)(hk:AG P base nt w0 rest Q ⟨ZC s.fr o.dst d,h'⟩):AG P base nt w0 ((o,none)::rest) Q s:=by
 intro Z z pl a w r b;obtain⟨v,w',Qm,Zl,hT,hO,hv,hb,_⟩:=h Z pl a w r (KZ Zd b.1.size);have fin:∀u,u=v->Rel Z base nt ⟨ZC s.fr o.dst d,h'⟩ Qm (a.put o.dst u) w':=by
  rintro u rfl;cases hd:o.dst with
  | none=>exact r.Bg hT hO u
  | some t=>rw[hd]at ht;exact r.to hT hO (kI ht) hv
 simp only[qn,XB,K6];unfold Oper.wp;rcases Zl with Zl|⟨Zl,hu⟩
 ·rw[Zl];simp only[Oper.upon_value];exact hk Z z Qm _ w' (fin v rfl) (b.step hT hb)
 ·rw[Zl];simp only[Oper.upon_skip];exact hk Z z Qm _ w' (fin _ hu.symm) (b.step hT hb)
def rW{tmps:Array Value}{t}{b}(h:tmps.getD t Go.undef=.bool b):Pg tmps t=some b:=by
 unfold Pg;rw[y6]at h;cases hh:tmps[t]? with
 | none=>rw[hh]at h;simp[Go.undef]at h
 | some v=>rw[hh]at h;simp at h;rw[h]
def rX{tmps:Array Value}{t}{vs}(h:tmps.getD t Go.undef=.tuple vs):Pg tmps t=none:=by
 unfold Pg;rw[y6]at h;cases hh:tmps[t]? with
 | none=>rfl
 | some v=>rw[hh]at h;simp at h;rw[h]
def Rel.tell{s:St}{pl}{a:Act}{w}(r:Rel Z base nt s pl a w){t}{d}(hd:QE Z s.h pl w d (a.tmps.getD t Go.undef)):Rel Z base nt ⟨put s.fr t d,s.h⟩ pl a w:=
 ⟨r.nt,r.defers,λu=>by
  rw[FT];by_cases h:u=t
  ·subst h;rw[Qf rfl];exact hd
  ·rw[Qd h];exact r.fr u,r.o⟩
def Qqy{o:Oper}{rest}{s:St}{t}{b x}(hx:get s.fr t=.raw (.bool x))(ht:ZQ nt o.dst=true\/x=b)
  (h1:x=b->AG P base nt w0 ((o,none)::rest) Q ⟨put s.fr t (.raw (.bool b)),s.h⟩) (h2:x=(!b)->AG P base nt w0 rest Q ⟨ZC (put s.fr t (.raw (.bool (!b)))) o.dst (.raw Go.undef),s.h⟩):AG P base nt w0 ((o,some (some t,b))::rest) Q s:=by
 intro Z z pl a w r bb;have hr:=r.fr t;rw[hx]at hr;have hv:=JG hr;have hb:=rW hv;simp only[qn,XB,hb];by_cases Ex:x=b
 ·have:=h1 Ex Z z pl a w (r.tell (by rw[hv,Ex];exact .cl _ _ (.raw _))) bb;simp only[qn,XB,K6]at this;rw[Qf (by simp[Ex])];exact this
 ·have Ic:x=(!b):=by cases x<;>cases b<;>simp_all
  rw[Qd (by simp[Ex])];have r2:Rel Z base nt ⟨put s.fr t (.raw (.bool (!b))),s.h⟩ pl a w:=r.tell (by rw[hv,Ic];exact .cl _ _ (.raw _));exact h2 Ic Z z pl _ w (r2.skip (ht.resolve_right Ex)) bb
def Qe7{o:Oper}{rest}{s:St}{g:Option Nat × Bool}(hg:g.1=none\/∃t vs,g.1=some t/\get s.fr t=.raw (.tuple vs))(ht:ZQ nt o.dst=true)(h:AG P base nt w0 rest Q ⟨ZC s.fr o.dst (.raw Go.undef),s.h⟩):AG P base nt w0 ((o,some g)::rest) Q s:=by
 intro Z z pl a w r bb;obtain⟨g1,b⟩:=g;have:XB (some (g1,b)) a.tmps=false:=by
  rcases hg with rfl|⟨t,vs,rfl,hx⟩
  ·rfl
  ·have hr:=r.fr t;rw[hx]at hr;simp[XB,rX (JG hr)]
 simp only[qn,this,qa,jP];exact h Z z pl _ w (r.skip ht) bb
def vP{X}(hX:zB P X)(Zd:base<=w0.w.heap.size):∀(n:Nat) (k:List Item) (s:St),(exec X nt n k s).holds P base nt w0 Q->QA P base nt w0 Q k .normal s
 | 0,k,s,h=>by cases k<;>exact h
 | n+1,[],s,h=>h
 | n+1,.inBlock id::k,s,h=>by
  simp only[exec]at h;simp only[QA];exact vP hX Zd n k s h
 | n+1,.inScope::k,s,h=>by
  simp only[exec]at h;simp only[QA];exact vP hX Zd n k s h
 | n+1,.code c::k,s,h=>by
  cases c with
  | skip=>simp only[exec]at h;have:=vP hX Zd n k s h;simp only[QA];exact λZ z pl a w r b=>wp_skip ⟨s,pl,this,r,b⟩
  | label l=>simp only[exec]at h;have:=vP hX Zd n k s h;simp only[QA];exact λZ z pl a w r b=>wp_label ⟨s,pl,this,r,b⟩
  | seq x y=>simp only[exec]at h;exact Yu (vP hX Zd n _ s h)
  | block id c=>simp only[exec]at h;exact Qqw (vP hX Zd n _ s h)
  | cond c x y=>
   simp only[exec]at h;split at h
   ·rename_i b hb;exact Qqx hb (λe=>vP hX Zd n _ s (h.1 e)) (λe=>vP hX Zd n _ s (h.2 e))
   ·exact h.elim
  | exit id=>
   simp only[exec]at h;simp only[QA];split at h
   ·rename_i k' hk;have:=Ua hk (vP hX Zd n k' s h);exact λZ z pl a w r b=>wp_exit ⟨s,pl,this,r,b⟩
   ·rename_i hk;have:=Ub (P:=P) (base:=base) (nt:=nt) (w0:=w0) hk h;exact λZ z pl a w r b=>wp_exit ⟨s,pl,this,r,b⟩
  | ret=>
   simp only[exec]at h;simp only[QA];exact λZ z pl a w r b=>wp_ret ⟨s,pl,Uc h,r,b⟩
  | region id ops dr=>
   simp only[exec]at h;cases dr
   ·have:=vP hX Zd n _ s h;simp only[QA]at this ⊢;exact λZ z pl a w r b=>Qqr (this Z z pl a w r b)
   ·exact h
  | loop c=>exact h
  | rangeFunc f ps a b=>exact h
  | scope b=>simp only[exec]at h;exact Qqv (vP hX Zd n _ s h)
  | goto l=>exact h
  | refuse w=>exact h
 | n+1,.ops []::k,s,h=>by
  simp only[exec]at h;simp only[QA];have:=vP hX Zd n k s h;exact λZ z pl a w r b=>⟨s,pl,this,r,b⟩
 | n+1,.ops ((o,g)::r)::k,s,h=>by
  have pr:∀s',ZQ nt o.dst=true\/True->(exec X nt n (.ops r::k) s').holds P base nt w0 Q->AG P base nt w0 r (QA P base nt w0 Q k) s':=λs' _ hh=>by
   have:=vP hX Zd n (.ops r::k) s' hh;simpa only[QA] using this
  cases g with
  | none=>
   simp only[exec]at h;simp only[QA];split at h
   ·rename_i p d hp;cases ht:ZQ nt o.dst
    ·rw[ht]at h;exact h.elim
    ·rw[ht]at h;exact rV (Qe4 hX hp h.1) ht (pr _ (.inl ht) h.2)
   ·split at h
    ·rename_i p h' d hp;cases ht:ZQ nt o.dst
     ·rw[ht]at h;exact h.elim
     ·rw[ht]at h;exact fY Zd (Qe5 hX hp h.1) ht (pr _ (.inl ht) h.2)
    ·simpa only[Tree.holds,QA] using h
  | some g=>
   obtain⟨g1,b⟩:=g;cases g1 with
   | none=>
    simp only[exec]at h;simp only[QA];cases ht:ZQ nt o.dst
    ·rw[ht]at h;exact h.elim
    ·rw[ht]at h;exact Qe7 (.inl rfl) ht (pr _ (.inl ht) h)
   | some t=>
    simp only[exec]at h;simp only[QA];split at h
    ·rename_i x hx;simp only[Tree.holds,Qe6,vG,jO,ne_eq]at h;have h3:=λe=>vP hX Zd n _ _ (h.1 e);simp only[QA]at h3;refine Qqy hx ?_ h3 λe=>?_
     ·by_cases Ex:x=b
      ·exact .inr Ex
      ·have:=h.2 Ex;cases ht:ZQ nt o.dst
       ·rw[ht]at this;exact this.elim
       ·exact .inl rfl
     ·have:=h.2 (by rw[e];cases b<;>simp);cases ht:ZQ nt o.dst
      ·rw[ht]at this;exact this.elim
      ·rw[ht]at this;exact pr _ (.inl ht) this
    ·rename_i vs hx;cases ht:ZQ nt o.dst
     ·rw[ht]at h;exact h.elim
     ·rw[ht]at h;exact Qe7 (.inr ⟨t,_,rfl,hx⟩) ht (pr _ (.inl ht) h)
    ·exact h.elim
end
variable {Z:Nat->Prop}
mutual
def D.shift(k:Nat):D->D
 | .ref l g off len=>.ref (k+l) g off len
 | .ptr l g i j=>.ptr (k+l) g i j
 | .mref l g=>.mref (k+l) g
 | .clo f nf cs=>.clo f nf (Aj k cs)
 | .agg cs=>.agg (Aj k cs)
 | .tup cs=>.tup (Aj k cs)
 | d=>d
def Aj(k:Nat):List D->List D
 | []=>[]
 | c::cs=>c.shift k::Aj k cs
end
def Ob.shift(k:Nat)(o:Ob):Ob:={ o with row:=λi=>Aj k (o.row i) }
def x8(k):∀cs:List D,(Aj k cs).length=cs.length
 | []=>rfl
 | _::cs=>by simp[Aj,x8 k cs]
def Ie(k):∀(cs:List D) (i:Nat),i<cs.length->nth (Aj k cs) i=(nth cs i).shift k
 | [],i,h=>by simp at h
 | c::cs,0,_=>by simp[Aj,nth]
 | c::cs,i+1,h=>by
  have:=Ie k cs i (by simpa using h);simpa[Aj,nth] using this
def QE.join{Zc}{h h':List Ob}{pl Qm:List Pl}{w}(hl:pl.length=h.length)(hf:∀b,free Zc Qm b->free Z (pl++Qm) b){d}{v}(r:QE Zc h' Qm w d v):
  QE Z (h++h'.map (Ob.shift h.length)) (pl++Qm) w (d.shift h.length) v:=by
 have Zt:∀(l:Nat) (o:Ob),h'[l]? = some o->(h++h'.map (Ob.shift h.length))[h.length+l]? = some (o.shift h.length):=λl o e=>by
  rw[Kf (by omega)];simp[e]
 have Zk:∀(l:Nat) (p:Pl),Qm[l]? = some p->(pl++Qm)[h.length+l]? = some p:=λl p e=>by
  rw[Kf (by omega),hl];simp[e]
 have ZP:∀(d:D) (v:Value),Cl (free Zc Qm) w d v->QE Z (h++h'.map (Ob.shift h.length)) (pl++Qm) w (d.shift h.length) v:=by
  intro d v hc;have x6:=hc.mono (N':=free Z (pl++Qm)) (w':=w) (λb hb _=>⟨hf b hb,rfl⟩);clear hc;induction x6 with
  | raw v=>exact .cl _ _ (.raw v)
  | undef v=>exact .cl _ _ (.undef v)
  | nil a=>exact .cl _ _ (.nil a)
  | imm sz n row a cap b o vs ha hl hs hc hr ih=>exact .cl _ _ (.imm sz n row a cap b o vs ha hl hs hc hr)
  | ip cells b o vs hc hr ih=>exact .cl _ _ (.ip cells b o vs hc hr)
  | clo f nf cs vs hl hr ih=>exact .clo f nf _ vs (by rw[x8];exact hl) (λi hi=>by rw[x8]at hi;rw[Ie _ _ _ hi];exact ih i hi)
  | agg cs vs hl hr ih=>exact .agg _ vs (by rw[x8];exact hl) (λi hi=>by rw[x8]at hi;rw[Ie _ _ _ hi];exact ih i hi)
  | tup cs vs hl hr ih=>exact .tup _ vs (by rw[x8];exact hl) (λi hi=>by rw[x8]at hi;rw[Ie _ _ _ hi];exact ih i hi)
 induction r with
 | cl d v hc=>exact ZP d v hc
 | ref l g off len o p a cap ho hp hk hg hs=>exact .ref _ g off len _ p a cap (Zt l o ho) (Zk l p hp) hk hg hs
 | ptr l g i j o p a ho hp hk hg hs=>exact .ptr _ g i j _ p a (Zt l o ho) (Zk l p hp) hk hg hs
 | mref l g o p b ho hp hk hg hs=>exact .mref _ g _ p b (Zt l o ho) (Zk l p hp) hk hg hs
 | clo f nf cs vs hl hr ih=>exact .clo f nf _ vs (by rw[x8];exact hl) (λi hi=>by rw[x8]at hi;rw[Ie _ _ _ hi];exact ih i hi)
 | agg cs vs hl hr ih=>exact .agg _ vs (by rw[x8];exact hl) (λi hi=>by rw[x8]at hi;rw[Ie _ _ _ hi];exact ih i hi)
 | tup cs vs hl hr ih=>exact .tup _ vs (by rw[x8];exact hl) (λi hi=>by rw[x8]at hi;rw[Ie _ _ _ hi];exact ih i hi)
def Tr.join{base}{h h'}{pl Qm:List Pl}{w w':World}(R:Zv Z base h pl w)(hb:Below w.heap.size w w')(Kb:∀(l b q:Nat),Qm[l]? = some (some (b,q))->w.heap.size<=b):
  Tr h pl w (h++h') (pl++Qm) w' where
 KE:=λb qR Qc=>by
  refine⟨λl q e=>?_,hb.block b Qc⟩;by_cases hl:l<pl.length
  ·rw[JD hl]at e;exact qR l q e
  ·rw[Kf (by omega)]at e;have:=Kb _ _ _ e;omega
 obj:=λl o p ho hp=>⟨o,p,by rw[JD (Kr ho)];exact ho,by rw[JD (Wq hp)];exact hp,QB _,rfl,λ_=>⟨rfl,rfl⟩⟩
 shape:=λl o o' b q ho ZT hg hp c el Bi=>⟨c,by rw[hb.block b (R.lt hp).1];exact Bi,rfl⟩
def Zv.join{Zc}{base}{h h'}{pl Qm}{w w':World}(R:Zv Z base h pl w)(Zd:base<=w.heap.size)(hb:Below w.heap.size w w')(R':Zv Zc w.heap.size h' Qm w')
  (hf:∀b,free Zc Qm b->free Z (pl++Qm) b) (Kb:∀(l b q:Nat),Qm[l]? = some (some (b,q))->w.heap.size<=b):Zv Z base (h++h'.map (Ob.shift h.length)) (pl++Qm) w':=by
 have T:=Tr.join (h':=h'.map (Ob.shift h.length)) R hb Kb;refine⟨by simp[R.len,R'.len],?_,?_,?_⟩
 ·intro l l' b q q' e1 e2;by_cases h1:l<pl.length<;>by_cases h2:l'<pl.length
  ·rw[JD h1]at e1;rw[JD h2]at e2;exact R.inj _ _ _ _ _ e1 e2
  ·rw[JD h1]at e1;rw[Kf (by omega)]at e2;have:=(R.lt e1).1;have:=Kb _ _ _ e2;omega
  ·rw[Kf (by omega)]at e1;rw[JD h2]at e2;have:=(R.lt e2).1;have:=Kb _ _ _ e1;omega
  ·rw[Kf (by omega)]at e1 e2;have:=R'.inj _ _ _ _ _ e1 e2;omega
 ·intro l o ho hp;by_cases h1:l<h.length
  ·rw[JD h1]at ho;rw[JD (by rw[R.len];exact h1)]at hp;exact R.VM l o ho hp
  ·rw[Kf (by omega)]at ho;rw[Kf (by rw[R.len];omega),R.len]at hp;simp only[KG,Xv]at ho;obtain⟨o',ZT,rfl⟩:=ho;exact R'.VM _ o' ZT hp
 ·intro l o b q ho hp;by_cases h1:l<h.length
  ·rw[JD h1]at ho;rw[JD (by rw[R.len];exact h1)]at hp;obtain⟨g1,x⟩:=R.at_ l o b q ho hp;exact⟨g1,x.to rfl rfl rfl (hb.block b (R.lt hp).1) (λ_ _=>rfl) λi j v _ _ hr=>hr.tr T⟩
  ·rw[Kf (by omega)]at ho;rw[Kf (by rw[R.len];omega),R.len]at hp;simp only[KG,Xv]at ho;obtain⟨o',ZT,rfl⟩:=ho;obtain⟨g1,x⟩:=R'.at_ _ o' b q ZT hp;refine⟨λ_=>by have:=Kb _ _ _ hp;omega,x.to rfl rfl rfl rfl (λi _=>x8 _ _) λi j v hi hj hr=>?_⟩;show QE Z _ _ _ (nth (Aj _ (o'.row i)) j) v;rw[Ie _ _ _ hj];exact hr.join R.len hf
def QK(P:Program)(f:FuncId)(F:List Ob)(args:List D)(R:D->List Ob->Prop):Prop:=
 ∀(Z:Nat->Prop) (base:Nat) (w:World) (pl:List Pl) (vs:List Value),base<=w.heap.size->(∀b,w.heap.size<=b->Z b)->Zv Z base F pl w ->
  vs.length=args.length->(∀i,i<args.length->QE Z F pl w (nth args i) (Zb vs i)) ->
  Calls P f vs.toArray w λe w'=>∃v d h Qm,e=.returned v/\R d h/\Zv Z base h Qm w'/\QE Z h Qm w' d v/\Tr F pl w h Qm w'/\Below base w w'
def QK.mono{P}{f}{F}{args}{R R'}(h:QK P f F args R)(hr:∀d h,R d h->R' d h):QK P f F args R':=λZ base w pl vs h1 h2 h3 h4 h5=>
 (h Z base w pl vs h1 h2 h3 h4 h5).mono λ_ _ ⟨v,d,hh,Qm,k1,k2,k3⟩=>⟨v,d,hh,Qm,k1,hr _ _ k2,k3⟩
def Q4(P:Program)(f:FuncId)(args:List D)(R:D->List Ob->Prop):Prop:=QK P f [] args R
def Q4.mono{P}{f}{args}{R R'}(h:Q4 P f args R)(hr:∀d h,R d h->R' d h):Q4 P f args R':=QK.mono h hr
def x9:List D->Nat->List (Nat × D)
 | [],_=>[]
 | d::r,i=>(i,d)::x9 r (i+1)
def Qe8:∀(args:List D) (i t:Nat),get (x9 args i) t=if i<=t then nth args (t - i) else .undef
 | [],i,t=>by simp[x9,get,nth]
 | d::r,i,t=>by
  simp only[x9,get];by_cases h:i=t
  ·subst h;simp[nth]
  ·have:Nat.beq i t=false:=by rw[<- qb,Wp];exact h
   rw[this];simp only[Xw];rw[Qe8 r (i+1) t];by_cases h2:i+1<=t
   ·rw[Qf h2,Qf (by omega)];obtain⟨m,rfl⟩:∃m,t=i+(m+1):=⟨t - i - 1,by omega⟩;rw[show i+(m+1) - (i+1)=m by omega,show i+(m+1) - i=m+1 by omega];simp[nth]
   ·rw[Qd h2,Qd (by omega)]
def F5(L:Jt)(s:St):List ResultVar->Option (Prop × List D)
 | []=>some (True,[])
 | .tmp t::r=>match F5 L s r with
  | some (p,ds)=>some (p,get s.fr t::ds)
  | none=>none
 | .cell a ty::r=>match Mv L s.h ty (get s.fr a),F5 L s r with
  | some (q,d),some (p,ds)=>some (q/\p,d::ds)
  | _,_=>none
def one:List D->D
 | [d]=>d
 | ds=>.tup ds
def F6(L:Jt)(rs:List ResultVar)(R:D->List Ob->Prop):Exit->St->Prop
 | .normal,s | .ret,s=>match F5 L s rs with
  | some (p,ds)=>p/\R (one ds) s.h
  | none=>False
 | _,_=>False
def Pj(tmps:Array Value):ResultVar->Sem Value
 | .tmp t=>pure (tmps.getD t Go.undef)
 | .cell x t=>do loadVar t (<- asAddr (tmps.getD x Go.undef))
def rY(fn:Func)(tmps):results fn tmps=(do let vs <- fn.results.mapM (Pj tmps);pure (if h:vs.size=1 then vs[0] else .tuple vs)):=by
 unfold results;congr 2
def rZ{P}{L}(hL:Jq P L){base nt}{s}{pl}{a}{w}(r:Rel Z base nt s pl a w):∀(rs:List ResultVar) (p:Prop) (ds:List D),F5 L s rs=some (p,ds)->p ->
  ∃vs:List Value,vs.length=ds.length/\(∀i,i<ds.length->QE Z s.h pl w (nth ds i) (Zb vs i)) /\
   (rs.mapM (Pj a.tmps)).run P w=.ok vs w
 | [],p,ds,h,_=>by simp[F5]at h;obtain⟨_,rfl⟩:=h;exact⟨[],rfl,λi hi=>by simp at hi,by simp⟩
 | .tmp t::rs,p,ds,h,hp=>by
  simp only[F5]at h;split at h
  ·rename_i q ds' hr;simp only[Za,Zp]at h;obtain⟨rfl,rfl⟩:=h;obtain⟨vs,h1,h2,h3⟩:=rZ hL r rs _ _ hr hp;refine⟨a.tmps.getD t Go.undef::vs,by simp[h1],λi hi=>?_,by simp[List.mapM_cons,Pj,h3]⟩;cases i with
   | zero=>exact r.fr t
   | succ i=>have:=h2 i (by simpa using hi);simpa[nth,Zb] using this
  ·cases h
 | .cell x t::rs,p,ds,h,hp=>by
  simp only[F5]at h;split at h
  ·rename_i q d p' ds' hl hr;simp only[Za,Zp]at h;obtain⟨rfl,rfl⟩:=h;obtain⟨vs,h1,h2,h3⟩:=rZ hL r rs _ _ hr hp.2;have ho := Qel (P := P) (base := base) (nt := nt) (s := s) (o := ⟨none, .load t (.tmp x), 0, "", #[], none⟩) hL (t := t) (x := .tmp x) rfl hl hp.1;obtain⟨v,hv,Zl⟩:=ho Z pl a w r;have Zl:=Zl w (λ_ _=>rfl);refine⟨v::vs,by simp[h1],λi hi=>?_,?_⟩
   ·cases i with
    | zero=>exact hv
    | succ i=>have:=h2 i (by simpa using hi);simpa[nth,Zb] using this
   ·have hx:=r.fr x;have fZ:(Pj a.tmps (.cell x t)).run P w=.ok v w:=by
     simp only[execOp,Act.eval,Instr.loadAt,Sem.run_bind]at Zl;simp only[Pj];have rf:∃ad,a.tmps.getD x Go.undef=.pointer (some ad):=by
      unfold Mv at hl;split at hl
      ·cases hl
      ·split at hl
       ·rename_i hg;rw[hg]at hx;obtain⟨_,_,ad,hv,_⟩:=FV hx;exact⟨_,hv⟩
       ·rename_i hg;rw[hg]at hx;obtain⟨_,_,_,hv,_⟩:=Mu hx;exact⟨_,hv⟩
       ·cases hl
     obtain⟨ad,wY⟩:=rf;rw[wY]at Zl ⊢;simp only[Instr.sureAddr,asAddr,Sem.run_bind,Sem.run_pure,Result.andThen_ok]at Zl ⊢;generalize (loadVar t ad).run P w=r1 at *;cases r1 with
     | ok u w1=>simp only[Result.andThen_ok]at Zl;cases Zl;rfl
     | halt x w1=>simp only[Result.andThen_halt]at Zl;cases Zl
    simp[List.mapM_cons,fZ,h3]
  ·cases h
def QqA{P:Program}{L}(hL:Jq P L){f}{fn:Func}{c}(hf:P.funcs[f]? = some fn)(hb:fn.body=some c){F}{args:List D}{R}(hn:args.length<=fn.ntmps)
  (h:∀(base:Nat) (w:World) (pl:List Pl),base<=w.heap.size->pl.length=F.length->A P base fn.ntmps ⟨w,F,pl⟩ c (F6 L fn.results.toList R) ⟨x9 args 0,F⟩):QK P f F args R:=by
 intro Z base w pl vs Zd hZ hO hl hc;refine calls_of_wp hf hb ?_;have fw:Rel Z base fn.ntmps ⟨x9 args 0,F⟩ pl { tmps:=vs.toArray++Array.replicate (fn.ntmps - vs.toArray.size) Go.undef,defers:=[] } w:=by
  refine⟨by simp;omega,rfl,λt=>?_,hO⟩;rw[Qe8];simp only[Z7,K6,HF];by_cases ht:t<args.length
  ·have:=hc t ht;have e:(vs.toArray++Array.replicate (fn.ntmps - vs.toArray.size) Go.undef).getD t Go.undef=Zb vs t:=by
    rw[y6,OJ (by simp;omega)];simp[Zb,Ze]
   rw[e];exact this
  ·have:nth args t=.undef:=by simp[nth,Ze,Cs (Nat.le_of_not_lt ht)]
   rw[this];exact .cl _ _ (.undef _)
 refine wp_mono (h base w pl Zd hO.len _ trivial pl _ w fw ⟨Below.refl _ _,Tr.refl _ _ _,ML.start (w0:=⟨w,F,pl⟩) hO hZ⟩) λe a' w' hh=>?_;obtain⟨s',Qm,hq,r',xg,hT,_⟩:=hh;have fin:(match F5 L s' fn.results.toList with|some (p,ds)=>p/\R (one ds) s'.h|none=>False)->a'.defers=[]/\∃v,(results fn a'.tmps).run P w'=.ok v w' /\
   ∃v1 d h Qm,Ending.returned v=.returned v1/\R d h/\Zv Z base h Qm w'/\QE Z h Qm w' d v1/\Tr F pl w h Qm w'/\Below base w w':=by
  intro hm;split at hm
  ·rename_i p ds CN;obtain⟨Xy,h1,h2,h3⟩:=rZ hL r' _ _ _ CN hm.1;have Zl:(fn.results.mapM (Pj a'.tmps)).run P w'=.ok Xy.toArray w':=by
    rw[Array.mapM_eq_mapM_toList];simp only[Sem.run_map,h3,Result.andThen_ok]
   refine⟨r'.defers,?_⟩;have JP:Xy.toArray.size=Xy.length:=by simp
   match ds,Xy,h1,h2,Zl,hm with
   | [d],[v],_,h2,Zl,hm=>
    refine⟨v,?_,v,d,s'.h,Qm,rfl,hm.2,r'.o,h2 0 (by simp),hT,xg⟩;rw[rY];simp only[Sem.run_bind];rw[Zl];simp
   | [],[],_,h2,Zl,hm=>
    refine⟨.tuple #[],?_,_,_,s'.h,Qm,rfl,hm.2,r'.o,.tup [] [] rfl (λi hi=>by simp at hi),hT,xg⟩;rw[rY];simp only[Sem.run_bind];rw[Zl];simp
   | d::d2::ds,v::v2::vs,h1,h2,Zl,hm=>
    refine⟨.tuple (v::v2::vs).toArray,?_,_,_,s'.h,Qm,rfl,hm.2,r'.o,.tup _ _ h1 h2,hT,xg⟩;rw[rY];simp only[Sem.run_bind];rw[Zl];simp
   | [],_::_,h1,_,_,_=>simp at h1
   | [_],[],h1,_,_,_=>simp at h1
   | [_],_::_::_,h1,_,_,_=>simp at h1
   | _::_::_,[],h1,_,_,_=>simp at h1
   | _::_::_,[_],h1,_,_,_=>simp at h1
  ·exact hm.elim
 cases e with
 | normal=>exact fin hq
 | ret=>exact fin hq
 | exit id=>exact hq.elim
 | goto l=>exact hq.elim
 | panic ch=>exact hq.elim
 | outgrown=>exact hq.elim
end Go.Fg
namespace Go.Fg
open Go.RowKit (Below)
variable {Z:Nat->Prop}
def D.WS:D->Bool
 | .raw _ | .nil | .imm _ _ _ | .ip _=>true
 | _=>false
def CO{h}{pl}{w}{d:D}{v}(r:QE Z h pl w d v)(hd:d.WS=true):Cl (free Z pl) w d v:=by
 cases r with
 | cl _ _ hc=>exact hc
 | _=>cases hd
def vQ(f:D->Option (Prop × D)):List D->Option (Prop × List D)
 | []=>some (True,[])
 | d::r=>match f d,vQ f r with
  | some (p,c),some (q,cs)=>some (p/\q,c::cs)
  | _,_=>none
def XQ(h:List Ob):Nat->D->Option (Prop × D)
 | 0,.raw v=>some (True,.raw v)
 | 0,_=>none
 | n+1,d=>match d with
  | .raw v=>some (True,.raw v)
  | .nil=>some (True,.nil)
  | .imm z n r=>some (True,.imm z n r)
  | .ip c=>some (True,.ip c)
  | .ref l g off len=>match h[l]? with
   | some o=>some (g=o.gen/\off+len<=o.n/\∀i,i<len->(o.row (off+i)).all D.WS=true,.imm o.sz len λi=>o.row (off+i))
   | none=>none
  | .ptr l g i j=>match h[l]? with
   | some o=>match vQ (XQ h n) ((o.row i).drop j) with
    | some (p,cs)=>some (g=o.gen/\i<o.n/\j<=o.sz/\p,.ip cs)
    | none=>none
   | none=>none
  | .agg cs=>match vQ (XQ h n) cs with
   | some (p,cs')=>some (p,.agg cs')
   | none=>none
  | .clo f nf cs=>match vQ (XQ h n) cs with
   | some (p,cs')=>some (p,.clo f nf cs')
   | none=>none
  | _=>none
def Ud{f:D->Option (Prop × D)}{C:D->Value->Prop}{r:D->Value->Prop}(hf:∀d v p c,r d v->f d=some (p,c)->p->C c v):∀(cs:List D) (vs:List Value) (p:Prop) (cs':List D),vs.length=cs.length->(∀i,i<cs.length->r (nth cs i) (Zb vs i)) ->
  vQ f cs=some (p,cs')->p->cs'.length=cs.length/\∀i,i<cs.length->C (nth cs' i) (Zb vs i)
 | [],vs,p,cs',hl,hr,h,hp=>by simp[vQ]at h;obtain⟨_,rfl⟩:=h;exact⟨rfl,λi hi=>by simp at hi⟩
 | d::cs,[],p,cs',hl,hr,h,hp=>by simp at hl
 | d::cs,v::vs,p,cs',hl,hr,h,hp=>by
  simp only[vQ]at h;split at h
  ·rename_i p1 c q r8 h1 h2;simp only[Za,Zp]at h;obtain⟨rfl,rfl⟩:=h;obtain⟨k1,k2⟩:=Ud hf cs vs q r8 (by simpa using hl) (λi hi=>by have:=hr (i+1) (by simpa using hi);simpa[nth,Zb] using this) h2 hp.2;refine⟨by simp[k1],λi hi=>?_⟩;cases i with
   | zero=>exact hf d v p1 c (hr 0 (by simp)) h1 hp.1
   | succ i=>have:=k2 i (by simpa using hi);simpa[nth,Zb] using this
  ·cases h
def gh{N}{base}{h}{pl:List Pl}{w}(R:Zv Z base h pl w)(gi:∀b,free Z pl b->N b)(Ue:∀l b q:Nat,pl[l]? = some (some (b,q))->N b):∀(n:Nat) (d:D) (v:Value) (p:Prop) (c:D),QE Z h pl w d v->XQ h n d=some (p,c)->p->Cl N w c v
 | 0,d,v,p,c,r,e,hp=>by
  cases d<;>simp only[XQ,reduceCtorEq,Za,Zp]at e;obtain⟨_,rfl⟩:=e;rw[JG r];exact .raw _
 | n+1,d,v,p,c,r,e,hp=>by
  have top:∀{d:D} {v:Value},Cl (free Z pl) w d v->Cl N w d v:=λh=>h.mono λb hb _=>⟨gi b hb,rfl⟩;cases d with
  | raw u=>simp only[XQ,Za,Zp]at e;obtain⟨_,rfl⟩:=e;exact top (CO r rfl)
  | nil=>simp only[XQ,Za,Zp]at e;obtain⟨_,rfl⟩:=e;exact top (CO r rfl)
  | imm z k row=>simp only[XQ,Za,Zp]at e;obtain⟨_,rfl⟩:=e;exact top (CO r rfl)
  | ip cs=>simp only[XQ,Za,Zp]at e;obtain⟨_,rfl⟩:=e;exact top (CO r rfl)
  | undef=>simp[XQ]at e
  | tup cs=>simp[XQ]at e
  | ref l g off len=>
   simp only[XQ]at e;split at e
   ·rename_i o ho;simp only[Za,Zp]at e;obtain⟨rfl,rfl⟩:=e;obtain⟨hg,hn,KS⟩:=hp;obtain⟨a,cap,vs,S⟩:=ri R r (p:=g=o.gen/\off+len<=o.n) (n:=len) (sz:=o.sz) (rows:=λk=>o.row (off+k)) (by simp[TR,ho]) ⟨hg,hn⟩;have Ek:∀i j,i<len->j<o.sz->(nth (o.row (off+i)) j).WS=true:=λi j hi hj=>by
     have h1:=KS i hi;rw[X6]at h1;have h2:j<(o.row (off+i)).length:=by rw[S.len i hi];exact hj
     refine h1 _ ?_;simp only[nth,Ze,QW h2,KA];exact qK h2
    obtain⟨o',p',ad,wZ,hv,ZT,Jl,ZE,vH,VN⟩:=Cw r;rw[ho]at ZT;cases ZT;have r9:=S.v;rw[hv]at r9;simp only[Value.slice.injEq,Bd]at r9;obtain⟨rfl,rfl⟩:=r9;rw[hv];rcases VN hg with ⟨h1,h2⟩|⟨b,q,c,el,WD,wY,hb,hc,hl⟩
    ·subst h1;exact .imm _ _ _ _ _ 0 0 (λ_ _=>Go.undef) (λh=>by omega) (by omega) (λi hi=>by omega) (λi j hi=>by omega) (λi j hi=>by omega)
    ·refine .imm _ _ _ _ _ b (q+off*o.sz) vs (λ_=>wY) hl S.len (λi j hi hj=>⟨Ue l b q (by rw[Jl,WD]),?_⟩) (λi j hi hj=>?_)
     ·obtain⟨b1,q1,hh,Ep⟩:=S.cell i j hi hj;rw[wY]at hh;simp only[Za,Addr.mk.injEq,and_true]at hh;obtain⟨rfl,rfl⟩:=hh;exact Ep
     ·exact top (CO (S.rel i j hi hj) (Ek i j hi hj))
   ·cases e
  | mref l g=>simp[XQ]at e
  | ptr l g i j=>
   simp only[XQ]at e;split at e
   ·rename_i o ho;split at e
    ·rename_i q cs JW;simp only[Za,Zp]at e;obtain⟨rfl,rfl⟩:=e;obtain⟨hg,hi,hj,hq⟩:=hp;obtain⟨o',p',ad,hv,ZT,Jl,ZE,vH,VN⟩:=FV r;rw[ho]at ZT;cases ZT;obtain⟨b,q0,rfl,rfl⟩:=VN hg;obtain⟨Zd,xx⟩:=R.at_ l o b q0 ho Jl;obtain⟨c,el,hb,My,Ku,ZH⟩:=xx.cells ZE;have hlen:((o.row i).drop j).length=o.sz - j:=by rw[List.length_drop,Ku i hi]
     let vs:List Value:=(List.range (o.sz - j)).map λk=>(c[q0+(i*o.sz+(j+k))]?).getD Go.undef;have hvs:∀k,k<o.sz - j->Zb vs k=(c[q0+(i*o.sz+(j+k))]?).getD Go.undef:=λk hk=>by simp[vs,Zb,Ze,hk]
     obtain⟨k1,k2⟩:=Ud (r:=λd v=>QE Z h pl w d v) (C:=λd v=>Cl N w d v) (λd v p c hr he hp=>gh R gi Ue n d v p c hr he hp) _ vs q cs (by simp[vs,hlen]) (λk hk=>by
      rw[hlen]at hk;obtain⟨u,hu,hr⟩:=ZH i (j+k) hi (by omega);rw[HM,hvs k hk,hu];exact hr) JW hq
     rw[hv];rw[hlen]at k1 k2;refine .ip _ b _ (λk=>Zb vs k) (λk hk=>⟨Ue l b q0 Jl,?_⟩) (λk hk=>k2 k (by omega));rw[k1]at hk;obtain⟨u,hu,hr⟩:=ZH i (j+k) hi (by omega);rw[cell_of_row w b _ c el (0,0) hb,hvs k hk,hu,KA,show q0+(i*o.sz+j)+k=q0+(i*o.sz+(j+k)) by omega,hu]
    ·cases e
   ·cases e
  | agg cs=>
   simp only[XQ]at e;split at e
   ·rename_i q cs' JW;simp only[Za,Zp]at e;obtain⟨rfl,rfl⟩:=e;obtain⟨vs,rfl,hl,hr⟩:=FW r;obtain⟨k1,k2⟩:=Ud (r:=λd v=>QE Z h pl w d v) (C:=λd v=>Cl N w d v) (λd v p c hr he hp=>gh R gi Ue n d v p c hr he hp) cs vs _ cs' hl hr JW hp;exact .agg _ _ (by omega) (λi hi=>k2 i (by omega))
   ·cases e
  | clo f nf cs=>
   simp only[XQ]at e;split at e
   ·rename_i q cs' JW;simp only[Za,Zp]at e;obtain⟨rfl,rfl⟩:=e;obtain⟨vs,rfl,hl,hr⟩:=pS r;obtain⟨k1,k2⟩:=Ud (r:=λd v=>QE Z h pl w d v) (C:=λd v=>Cl N w d v) (λd v p c hr he hp=>gh R gi Ue n d v p c hr he hp) cs vs _ cs' hl hr JW hp;exact .clo _ _ _ _ (by omega) (λi hi=>k2 i (by omega))
   ·cases e
def QqB{base}{h}{pl}{w}(R:Zv Z base h pl w)(n)(d)(v)(p:Prop)(c)(r:QE Z h pl w d v)(e:XQ h n d=some (p,c))(hp:p):Cl (λ_=>True) w c v:=
 gh R (λ_ _=>trivial) (λ_ _ _ _=>trivial) n d v p c r e hp
mutual
def D.flat:D->Bool
 | .raw _ | .nil | .ref _ _ _ _ | .ptr _ _ _ _ | .mref _ _=>true
 | .agg cs=>Ey cs
 | .tup cs=>Ey cs
 | .clo _ _ cs=>Ey cs
 | _=>false
def Ey:List D->Bool
 | []=>true
 | d::r=>d.flat&&Ey r
end
def If:∀{cs:List D},Ey cs=true->∀i,i<cs.length->(nth cs i).flat=true
 | [],_,i,h=>by simp at h
 | d::r,hf,i,h=>by
  simp only[Ey,Z9]at hf;cases i with
  | zero=>exact hf.1
  | succ i=>have:=If hf.2 i (by simpa using h);simpa[nth] using this
def QE.gj{Z'}{h}{pl}{w}{d:D}{v}(r:QE Z h pl w d v)(hf:d.flat=true):QE Z' h pl w d v:=by
 induction r with
 | cl d v hc=>
  have:∀{d:D} {v:Value},Cl (free Z pl) w d v->d.flat=true->QE Z' h pl w d v:=by
   intro d v hc;induction hc with
   | raw v=>exact λ_=>.cl _ _ (.raw v)
   | undef v=>intro hf;simp[D.flat]at hf
   | nil a=>exact λ_=>.cl _ _ (.nil a)
   | imm=>intro hf;simp[D.flat]at hf
   | ip=>intro hf;simp[D.flat]at hf
   | clo f nf cs vs hl hr ih=>exact λhf=>.clo f nf cs vs hl λi hi=>ih i hi (If (by simpa[D.flat] using hf) i hi)
   | agg cs vs hl hr ih=>exact λhf=>.agg cs vs hl λi hi=>ih i hi (If (by simpa[D.flat] using hf) i hi)
   | tup cs vs hl hr ih=>exact λhf=>.tup cs vs hl λi hi=>ih i hi (If (by simpa[D.flat] using hf) i hi)
  exact this hc hf
 | ref l g off len o p a cap ho hp hk hg hs=>exact .ref l g off len o p a cap ho hp hk hg hs
 | ptr l g i j o p a ho hp hk hg hs=>exact .ptr l g i j o p a ho hp hk hg hs
 | mref l g o p b ho hp hk hg hs=>exact .mref l g o p b ho hp hk hg hs
 | clo f nf cs vs hl hr ih=>exact .clo f nf cs vs hl λi hi=>ih i hi (If (by simpa[D.flat] using hf) i hi)
 | agg cs vs hl hr ih=>exact .agg cs vs hl λi hi=>ih i hi (If (by simpa[D.flat] using hf) i hi)
 | tup cs vs hl hr ih=>exact .tup cs vs hl λi hi=>ih i hi (If (by simpa[D.flat] using hf) i hi)
def Ob.flat(o:Ob):Prop:=∀i,i<o.n->Ey (o.row i)=true
def Zv.gj{Z'}{base}{h}{pl}{w}(R:Zv Z base h pl w)(hf:∀o∈h,o.flat):Zv Z' base h pl w where
 len:=R.len
 inj:=R.inj
 VM:=R.VM
 at_:=λl o b q ho hp=>by
  obtain⟨h1,x⟩:=R.at_ l o b q ho hp;exact⟨h1,x.to rfl rfl rfl rfl (λ_ _=>rfl) λi j v hi hj hr=>hr.gj (If (hf o (OQ ho) i hi) j hj)⟩
def Qo(P:Program)(f:FuncId):Prop:=∀(args:Array Value) (w:World),(callFunc f args).run P w=.ok (.enter f args) w
def KM:D->Option (FuncId × Nat × List D)
 | .raw (.func (.func f) ⟨[]⟩ ⟨[]⟩)=>some (f,0,[])
 | .clo f nf cs=>some (f,nf,cs)
 | _=>none
section
variable {P:Program}{base nt:Nat}{w0:Start}{Q:Exit->St->Prop}
def Uf{h}{pl}{w}{d}{v}{f}{nf}{QI}(r:QE Z h pl w d v)(e:KM d=some (f,nf,QI)):
  ∃vs:List Value,v=.func (.func f) (vs.take nf).toArray (vs.drop nf).toArray/\vs.length=QI.length/\∀i,i<QI.length->QE Z h pl w (nth QI i) (Zb vs i):=by
 unfold KM at e;split at e
 ·simp only[Za,Zp]at e;obtain⟨rfl,rfl,rfl⟩:=e;exact⟨[],JG r,rfl,λi hi=>by simp at hi⟩
 ·simp only[Za,Zp]at e;obtain⟨rfl,rfl,rfl⟩:=e;exact pS r
 ·cases e
def JT{α:Type}(nf:Nat)(QI args:List α):List α:=QI.take nf++(args++QI.drop nf)
def Ug{r:D->Value->Prop}{nf:Nat}{QI args:List D}{vs us:List Value}(h1:vs.length=QI.length)(h2:∀i,i<QI.length->r (nth QI i) (Zb vs i))(k1:us.length=args.length)(k2:∀i,i<args.length->r (nth args i) (Zb us i)):
  (JT nf vs us).length=(JT nf QI args).length/\∀i,i<(JT nf QI args).length->r (nth (JT nf QI args) i) (Zb (JT nf vs us) i):=by
 refine⟨by simp[JT,h1,k1],λi hi=>?_⟩;have hl:(vs.take nf).length=(QI.take nf).length:=by simp[h1]
 simp only[JT,nth,Zb,Ze];by_cases c1:i<(QI.take nf).length
 ·rw[JD (l₁:=QI.take nf) c1,JD (l₁:=vs.take nf) (by omega)];have c2:i<nf/\i<QI.length:=by simp at c1;omega
  rw[Yq,Yq,Qf c2.1,Qf c2.1];exact h2 i c2.2
 ·rw[Kf (l₁:=QI.take nf) (by omega),Kf (l₁:=vs.take nf) (by omega),hl];by_cases c2:i - (QI.take nf).length<args.length
  ·rw[JD (l₁:=args) c2,JD (l₁:=us) (by omega)];exact k2 _ c2
  ·rw[Kf (l₁:=args) (by omega),Kf (l₁:=us) (by omega),k1];rw[HA,HA];refine h2 _ ?_;simp only[JT,Zj,FL,List.length_drop]at hi c1 c2 ⊢;omega
def Uh{o:Oper}{a:Act}{x}{args}{Jm:Array TypeId}{f}{nf:Nat}{vs:List Value}(hf:Qo P f)(ho:o.op=.call ⟨.value x,args,Jm⟩)(hx:a.eval x=.func (.func f) (vs.take nf).toArray (vs.drop nf).toArray)(w):
  (execOp a.eval o).run P w=.ok (.enter f (JT nf vs (args.toList.map a.eval)).toArray) w:=by
 have e:(JT nf vs (args.toList.map a.eval)).toArray=(vs.take nf).toArray++args.map a.eval++(vs.drop nf).toArray:=by apply Array.ext';simp[JT]
 rw[e];simp[execOp,ho,resolve,hx,Deferred.ofValue,invoke,hf _ w]
def Qfa(Zd:base<=w0.w.heap.size){o:Oper}{s}{x}{args}{Jm:Array TypeId}{f}{nf}{QI}(hf:Qo P f)(ho:o.op=.call ⟨.value x,args,Jm⟩)
  (hx:KM (Qt s.fr x)=some (f,nf,QI)) {n:Nat} {p:Prop} {cs:List D} (JW:vQ (XQ s.h n) (JT nf QI (args.toList.map (Qt s.fr)))=some (p,cs)) (hp:p) {R:D->List Ob->Prop} (hF:Q4 P f cs R)
  (MM:∀d h,R d h->d.flat=true/\∀o∈h,o.flat) (ht:ZQ nt o.dst=true) (pl:List Pl) (a:Act) (w:World) (r:Rel Z base nt s pl a w) (b:Vp Z base w0 s.h pl w) (Q':Exit->Act->World->Prop) :
  o.wp P a w (λa' w'=>Ext w w'/\∃d h Qm,R d h/\Rel Z base nt ⟨ZC s.fr o.dst (d.shift s.h.length),s.h++h.map (Ob.shift s.h.length)⟩ Qm a' w'/\Vp Z base w0 (s.h++h.map (Ob.shift s.h.length)) Qm w'/\Tr s.h pl w (s.h++h.map (Ob.shift s.h.length)) Qm w'/\∃v,a'=a.put o.dst v) Q':=by
 obtain⟨vs,hv,xk,F7⟩:=Uf (r.eval x) hx;have jm:base<=w.heap.size:=KZ Zd b.1.size;obtain⟨q1,q2⟩:=Ug (r:=λd v=>QE Z s.h pl w d v) (nf:=nf) xk F7 (us:=args.toList.map a.eval) (args:=args.toList.map (Qt s.fr)) (by simp) (λi hi=>by
  have JQ:i<args.toList.length:=by simpa using hi
  simp only[nth,Zb,Ze,KG];rw[QW JQ];exact r.eval _)
 obtain⟨k1,k2⟩:=Ud (r:=λd v=>QE Z s.h pl w d v) (C:=λd v=>Cl (λ_=>True) w d v) (λd v p c hr he hp=>QqB r.o n d v p c hr he hp) _ (JT nf vs (args.toList.map a.eval)) p cs q1 q2 JW hp;have hc:=hF (λ_=>True) w.heap.size w [] (JT nf vs (args.toList.map a.eval)) (QB _) (λ_ _=>trivial) ⟨rfl,λl l' b q q' e=>by simp at e,λl o e=>by simp at e,λl o b q e=>by simp at e⟩ (by omega) (λi hi=>.cl _ _ ((k2 i (by omega)).mono λb _ _=>⟨⟨trivial,λl q e=>by simp at e⟩,rfl⟩));unfold Oper.wp;rw[Uh hf ho hv w];simp only[Oper.upon_enter];refine hc.mono λe w' he=>?_;obtain⟨v,d,h',Qm,rfl,hR,hO,hV,hTT,hB⟩:=he;obtain⟨f1,f2⟩:=MM d h' hR;have hO':=hO.gj (Z':=λ_=>False) f2;have hV':=hV.gj (Z':=λ_=>False) f1;have qR:∀b,free (λ_=>False) Qm b->free Z (pl++Qm) b:=λb hb=>hb.1.elim;have Kb:∀(l b q:Nat),Qm[l]? = some (some (b,q))->w.heap.size<=b:=λl b q e=>by
  rcases Bb b w.heap.size with Qc|XP
  ·exact absurd e ((hTT.KE b (λl q e=>by simp at e) Qc).1 l q)
  ·exact XP
 have T:=Tr.join (h':=h'.map (Ob.shift s.h.length)) r.o hB Kb;have MN:=Zv.join r.o jm hB hO' qR Kb;refine⟨λi hi=>hB.block i hi,d,h',pl++Qm,hR,?_,b.step T (hB.mono jm),T,v,rfl⟩;cases hd:o.dst with
 | none=>exact r.Bg T MN v
 | some t=>rw[hd]at ht;exact r.to T MN (kI ht) (hV'.join r.o.len qR)
def QqF(Zd:base<=w0.w.heap.size){o:Oper}{rest}{s}{x}{args}{Jm:Array TypeId}{f}{nf}{QI}(hf:Qo P f)(ho:o.op=.call ⟨.value x,args,Jm⟩)
  (hx:KM (Qt s.fr x)=some (f,nf,QI)) {n:Nat} {p:Prop} {cs:List D} (JW:vQ (XQ s.h n) (JT nf QI (args.toList.map (Qt s.fr)))=some (p,cs)) (hp:p) {R:D->List Ob->Prop} (hF:Q4 P f cs R)
  (MM:∀d h,R d h->d.flat=true/\∀o∈h,o.flat) (ht:ZQ nt o.dst=true) (hk:∀d h,R d h->AG P base nt w0 rest Q ⟨ZC s.fr o.dst (d.shift s.h.length),s.h++h.map (Ob.shift s.h.length)⟩):AG P base nt w0 ((o,none)::rest) Q s:=by
 intro Z z pl a w r b;simp only[qn,XB,K6];exact Oper.wp_mono (λa' w' ⟨_,d,h,Qm,hR,r',b',_⟩=>hk d h hR Z z Qm a' w' r' b') (Qfa Zd hf ho hx JW hp hF MM ht pl a w r b _)
def Ez(m:Nat)(h:List Ob)(pl:List Pl)(h':List Ob)(Qm:List Pl):Prop:=
 (∀b,XN pl b->XN Qm b)/\∀(l:Nat) (o:Ob) (p:Pl),l<m->h[l]? = some o->pl[l]? = some p->∃o',h'[l]? = some o'/\Qm[l]? = some p/\o'.gen=o.gen/\o'.sz=o.sz/\o'.kd.ty=o.kd.ty
def Ez.refl(m)(h)(pl):Ez m h pl h pl:=⟨λ_ h=>h,λ_ o p _ ho hp=>⟨o,ho,hp,rfl,rfl,rfl⟩⟩
def Ez.trans{m}{h h' qO}{pl Qm Mr}(a:Ez m h pl h' Qm)(b:Ez m h' Qm qO Mr):Ez m h pl qO Mr:=
 ⟨λx hx=>b.1 x (a.1 x hx),λl o p hl ho hp=>by
  obtain⟨o1,h1,h2,h3,h4,h5⟩:=a.2 l o p hl ho hp;obtain⟨o2,k1,k2,k3,k4,k5⟩:=b.2 l o1 p hl h1 h2;exact⟨o2,k1,k2,by rw[k3,h3],by rw[k4,h4],by rw[k5,h5]⟩⟩
def Tr.keep{F h h':List Ob}{pl0 pl Qm}{w0 w}{m}(T:Tr F pl0 w0 h pl w)(hm:F.length<=m)(K:Ez m h pl h' Qm):Tr F pl0 w0 h' Qm w where
 KE:=λb hb Qc=>⟨K.1 b (T.KE b hb Qc).1,(T.KE b hb Qc).2⟩
 obj:=λl o p ho hp=>by
  obtain⟨o1,p1,h1,h2,h3,h4,h5⟩:=T.obj l o p ho hp;obtain⟨o2,k1,k2,k3,k4,k5⟩:=K.2 l o1 p1 (wU (Kr ho) hm) h1 h2;exact⟨o2,p1,k1,k2,by omega,by rw[k5,h4],λe=>by obtain⟨x,y⟩:=h5 (by omega);exact⟨by rw[k4,x],y⟩⟩
 shape:=λl o eW b q ho OZ hg hp c el hb=>by
  obtain⟨o1,p1,h1,h2,h3,h4,h5⟩:=T.obj l o _ ho hp;obtain⟨o2,k1,k2,k3,k4,k5⟩:=K.2 l o1 p1 (wU (Kr ho) hm) h1 h2;rw[OZ]at k1;cases k1;exact T.shape l o o1 b q ho h1 (by omega) hp c el hb
def Wk(m:Nat)(s s':St):Prop:=∀(Z:Nat->Prop) (base nt:Nat) pl a w,Rel Z base nt s pl a w->∃Qm,Rel Z base nt s' Qm a w/\Ez m s.h pl s'.h Qm
def Wk.refl{m}(s):Wk m s s:=λ_ _ _ pl _ _ r=>⟨pl,r,.refl _ _ _⟩
def Wk.trans{m}{s s' MO}(h:Wk m s s')(k:Wk m s' MO):Wk m s MO:=λZ b n pl a w r=>
 let ⟨Qm,r',K⟩:=h Z b n pl a w r;let ⟨Mr,r'',K'⟩:=k Z b n Qm a w r'
 ⟨Mr,r'',K.trans K'⟩
def Vp.keep{h h'}{pl Qm}{w}(b:Vp Z base w0 h pl w)(K:Ez w0.F.length h pl h' Qm):Vp Z base w0 h' Qm w:=⟨b.1,b.2.1.keep (QB _) K,b.2.2.new,λl b' q e h0=>by
 by_cases ha:XN pl b'
 ·exact absurd e (K.1 b' ha l q)
 ·obtain⟨l1,h1⟩:=OL.1 ha;obtain⟨q1,h2⟩:=OL.1 h1;exact b.2.2.own l1 b' q1 (Classical.not_not.1 h2) h0⟩
def Qp(w0:Start)(s s':St):Prop:=∀(Z:Nat->Prop),TZ w0 Z->∀(base nt:Nat) pl a w,Rel Z base nt s pl a w->Vp Z base w0 s.h pl w->∃Qm,Rel Z base nt s' Qm a w/\Vp Z base w0 s'.h Qm w
def Wk.up{s s'}(h:Wk w0.F.length s s'):Qp w0 s s':=λZ _ base nt pl a w r b=>let ⟨Qm,r',K⟩:=h Z base nt pl a w r;⟨Qm,r',b.keep K⟩
def Qp.refl(s):Qp w0 s s:=λ_ _ _ _ pl _ _ r b=>⟨pl,r,b⟩
def Qp.trans{s s' MO}(h:Qp w0 s s')(k:Qp w0 s' MO):Qp w0 s MO:=λZ z bs n pl a w r b=>
 let ⟨Qm,r',b'⟩:=h Z z bs n pl a w r b
 k Z z bs n Qm a w r' b'
def A.X8{c}{s s'}(h:Qp w0 s s')(k:A P base nt w0 c Q s'):A P base nt w0 c Q s:=λZ z pl a w r b=>let ⟨Qm,r',b'⟩:=h Z z base nt pl a w r b;k Z z Qm a w r' b'
def AG.X8{l}{s s'}(h:Qp w0 s s')(k:AG P base nt w0 l Q s'):AG P base nt w0 l Q s:=λZ z pl a w r b=>let ⟨Qm,r',b'⟩:=h Z z base nt pl a w r b;k Z z Qm a w r' b'
def qS{c}{k}{s s'}(h:Qp w0 s s')(hk:QA P base nt w0 Q (.code c::k) .normal s'):QA P base nt w0 Q (.code c::k) .normal s:=by
 simp only[QA]at hk ⊢;exact hk.X8 h
def Ig(fr:List (Nat × D)):List (Nat × D)->Prop
 | []=>True
 | (t,d)::r=>get fr t=d/\Ig fr r
def Qfc{fr}:∀{r:List (Nat × D)},Ig fr r->∀t d,(t,d)∈r->get fr t=d
 | [],_,_,_,h=>by cases h
 | (u,e)::r,h,t,d,hm=>by
  rcases QM.1 hm with h1|h1
  ·cases h1;exact h.1
  ·exact Qfc h.2 t d h1
def Qfd(fr)(u):get fr u=.undef\/(u,get fr u)∈fr:=by
 induction fr with
 | nil=>exact .inl rfl
 | cons x r ih=>
  obtain⟨t,d⟩:=x;simp only[get];by_cases h:t=u
  ·subst h;simp
  ·have:Nat.beq t u=false:=by rw[<- qb,Wp];exact h
   rw[this];rcases ih with ih|ih
   ·exact .inl (by simpa using ih)
   ·exact .inr (by simp[ih])
def Wk.frame{m}{fr fr'}{h}(hf:Ig fr fr'):Wk m ⟨fr,h⟩ ⟨fr',h⟩:=λZ base nt pl a w r=>
 ⟨pl,⟨r.nt,r.defers,λt=>by
  rcases Qfd fr' t with h1|h1
  ·show QE Z h pl w (get fr' t) _;rw[h1];exact .cl _ _ (.undef _)
  ·have:=Qfc hf _ _ h1;show QE Z h pl w (get fr' t) _;rw[<- this];exact r.fr t,r.o⟩,.refl _ _ _⟩
def Kd.Ui(k k':Kd):Prop:=k.ty=k'.ty/\k.ro=k'.ro
def Pm(o o':Ob):Prop:=o'.gen=o.gen/\o'.sz=o.sz/\o'.n=o.n/\o'.kd.Ui o.kd/\∀i,i<o.n->o'.row i=o.row i
def CP:List Ob->List Ob->Prop
 | [],[]=>True
 | o::r,o'::r'=>Pm o o'/\CP r r'
 | _,_=>False
def gl:∀{h h':List Ob},CP h h'->h'.length=h.length/\∀(l:Nat) (o':Ob),h'[l]? = some o'->∃o,h[l]? = some o/\Pm o o'
 | [],[],_=>⟨rfl,λl o' e=>by simp at e⟩
 | [],_::_,h=>h.elim
 | _::_,[],h=>h.elim
 | o::r,o'::r',h=>by
  obtain⟨h1,h2⟩:=gl h.2;refine⟨by simp[h1],λl u e=>?_⟩;cases l with
  | zero=>simp at e;subst e;exact⟨o,rfl,h.1⟩
  | succ l=>simp at e;obtain⟨v,h3,h4⟩:=h2 l u e;exact⟨v,by simpa using h3,h4⟩
def QE.Ih{h h'}{pl}{w}(hl:CP h h'){d}{v}(r:QE Z h pl w d v):QE Z h' pl w d v:=by
 obtain⟨h1,h2⟩:=gl hl;have key:∀(l:Nat) (o:Ob),h[l]? = some o->∃o',h'[l]? = some o'/\Pm o o':=λl o e=>by
  have:l<h'.length:=by rw[h1];exact Kr e
  obtain⟨o2,h3,h4⟩:=h2 l _ (QW this);rw[e]at h3;cases h3;exact⟨_,QW this,h4⟩
 induction r with
 | cl d v hc=>exact .cl d v hc
 | ref l g off len o p a cap ho hp hk hg hs=>
  obtain⟨o',h3,h4⟩:=key l o ho;exact .ref l g off len o' p a cap h3 hp (by rw[h4.2.2.2.1.1];exact hk) (by rw[h4.1];exact hg) (λe=>by rw[h4.2.1];exact hs (by rw[e,h4.1]))
 | ptr l g i j o p a ho hp hk hg hs=>
  obtain⟨o',h3,h4⟩:=key l o ho;exact .ptr l g i j o' p a h3 hp (by rw[h4.2.2.2.1.1];exact hk) (by rw[h4.1];exact hg) (λe=>by rw[h4.2.1];exact hs (by rw[e,h4.1]))
 | mref l g o p b ho hp hk hg hs=>
  obtain⟨o',h3,h4⟩:=key l o ho;exact .mref l g o' p b h3 hp (by rw[h4.2.2.2.1.1];exact hk) (by rw[h4.1];exact hg) (λe=>hs (by rw[e,h4.1]))
 | clo f nf cs vs hl hr ih=>exact .clo f nf cs vs hl ih
 | agg cs vs hl hr ih=>exact .agg cs vs hl ih
 | tup cs vs hl hr ih=>exact .tup cs vs hl ih
def Wk.Ih{m}{fr}{h h'}(hl:CP h h'):Wk m ⟨fr,h⟩ ⟨fr,h'⟩:=λZ base nt pl a w r=>by
 obtain⟨h1,h2⟩:=gl hl;refine⟨pl,⟨r.nt,r.defers,λt=>(r.fr t).Ih hl,⟨by rw[h1];exact r.o.len,r.o.inj,λl o' ho hp=>?_,λl o' b q ho hp=>?_⟩⟩,λ_ h=>h,λl o p _ ho hp=>?_⟩
 ·obtain⟨o,h3,h4⟩:=h2 l o' ho;rw[h4.2.2.1];exact r.o.VM l o h3 hp
 ·obtain⟨o,h3,h4,h5,h6,h8,h7⟩:=h2 l o' ho;obtain⟨g1,x⟩:=r.o.at_ l o b q h3 hp;exact⟨λhr=>g1 (by rw[<- h8.2,hr]),x.to h8.1 h5 h6 rfl (λi hi=>by rw[h7 i hi]) λi j v hi _ hr=>by rw[h7 i hi];exact hr.Ih hl⟩
 ·have Qc:l<h'.length:=by rw[h1];exact Kr ho
  obtain⟨o2,h3,h4⟩:=h2 l _ (QW Qc);have ho:h[l]? = some o:=ho;rw[ho]at h3;cases h3;exact⟨_,QW Qc,hp,h4.1,h4.2.1,h4.2.2.2.1.1⟩
mutual
def D.upto(k:Nat):D->Bool
 | .ref l _ _ _=>Nat.blt l k
 | .ptr l _ _ _=>Nat.blt l k
 | .mref l _=>Nat.blt l k
 | .clo _ _ cs=>Bu k cs
 | .agg cs=>Bu k cs
 | .tup cs=>Bu k cs
 | _=>true
def Bu(k:Nat):List D->Bool
 | []=>true
 | d::r=>d.upto k&&Bu k r
end
def Pn{k}:∀{cs:List D},Bu k cs=true->∀i,i<cs.length->(nth cs i).upto k=true
 | [],_,i,h=>by simp at h
 | d::r,hf,i,h=>by
  simp only[Bu,Z9]at hf;cases i with
  | zero=>exact hf.1
  | succ i=>have:=Pn hf.2 i (by simpa using h);simpa[nth] using this
def QE.take{h:List Ob}{pl:List Pl}{w}{k}{d:D}{v}(r:QE Z h pl w d v)(hk:d.upto k=true):QE Z (h.take k) (pl.take k) w d v:=by
 have qR:∀b,free Z pl b->free Z (pl.take k) b:=λb hb=>⟨hb.1,λl q e=>by
  rw[Yq]at e;split at e
  ·exact hb.2 l q e
  ·cases e⟩
 induction r with
 | cl d v hc=>exact .cl d v (hc.mono λb hb _=>⟨qR b hb,rfl⟩)
 | ref l g off len o p a cap ho hp hm hg hs=>
  have:l<k:=by simpa[D.upto,xU] using hk
  exact .ref l g off len o p a cap (by rw[Yq,Qf this];exact ho) (by rw[Yq,Qf this];exact hp) hm hg hs
 | ptr l g i j o p a ho hp hm hg hs=>
  have:l<k:=by simpa[D.upto,xU] using hk
  exact .ptr l g i j o p a (by rw[Yq,Qf this];exact ho) (by rw[Yq,Qf this];exact hp) hm hg hs
 | mref l g o p b ho hp hm hg hs=>
  have:l<k:=by simpa[D.upto,xU] using hk
  exact .mref l g o p b (by rw[Yq,Qf this];exact ho) (by rw[Yq,Qf this];exact hp) hm hg hs
 | clo f nf cs vs hl hr ih=>exact .clo f nf cs vs hl λi hi=>ih i hi (Pn (by simpa[D.upto] using hk) i hi)
 | agg cs vs hl hr ih=>exact .agg cs vs hl λi hi=>ih i hi (Pn (by simpa[D.upto] using hk) i hi)
 | tup cs vs hl hr ih=>exact .tup cs vs hl λi hi=>ih i hi (Pn (by simpa[D.upto] using hk) i hi)
def Ii(k:Nat):List (Nat × D)->Bool
 | []=>true
 | (_,d)::r=>d.upto k&&Ii k r
def Qfe{k}:∀{fr:List (Nat × D)},Ii k fr=true->∀t,(get fr t).upto k=true
 | [],_,t=>rfl
 | (u,d)::r,h,t=>by
  simp only[Ii,Z9]at h;simp only[get];cases Nat.beq u t
  ·exact Qfe h.2 t
  ·exact h.1
def CQ(k:Nat):List Ob->Prop
 | []=>True
 | o::r=>(∀i,i<o.n->Bu k (o.row i)=true)/\CQ k r
def sb{k}:∀{h:List Ob},CQ k h->∀(l:Nat) (o:Ob),h[l]? = some o->∀i,i<o.n->Bu k (o.row i)=true
 | [],_,l,o,e=>by simp at e
 | o::r,h,l,u,e=>by
  cases l with
  | zero=>simp at e;subst e;exact h.1
  | succ l=>simp at e;exact sb h.2 l u e
def Wk.drop{m}(k)(hm:m<=k){fr}{h:List Ob}(h1:Ii k fr=true)(h2:CQ k (h.take k)):Wk m ⟨fr,h⟩ ⟨fr,h.take k⟩:=λZ base nt pl a w r=>by
 have Zk:∀(l:Nat) (p:Pl),(pl.take k)[l]? = some p->pl[l]? = some p:=λl p e=>by
  rw[Yq]at e;split at e
  ·exact e
  ·cases e
 have hh:∀(l:Nat) (o:Ob),(h.take k)[l]? = some o->h[l]? = some o:=λl o e=>by
  rw[Yq]at e;split at e
  ·exact e
  ·cases e
 refine⟨pl.take k,⟨r.nt,r.defers,λt=>(r.fr t).take (Qfe h1 t),⟨by simp[r.o.len],λl l' b q q' e1 e2=>r.o.inj l l' b q q' (Zk _ _ e1) (Zk _ _ e2),λl o ho hp=>r.o.VM l o (hh _ _ ho) (Zk _ _ hp),λl o b q ho hp=>?_⟩⟩,
  λb hb l q e=>hb l q (Zk _ _ e),λl o p hl ho hp=>⟨o,by show (h.take k)[l]? = _;rw[Yq,Qf (by omega)];exact ho,by rw[Yq,Qf (by omega)];exact hp,rfl,rfl,rfl⟩⟩
 obtain⟨g1,x⟩:=r.o.at_ l o b q (hh _ _ ho) (Zk _ _ hp);exact⟨g1,x.to rfl rfl rfl rfl (λ_ _=>rfl) λi j v hi hj hr=>hr.take (Pn (sb h2 l o ho i hi) j hj)⟩
def Wk.Bh{m}{fr}{h:List Ob}(t sz)(row)(ht:get fr t=.nil):Wk m ⟨fr,h⟩ ⟨put fr t (.ref h.length 0 0 0),h++[⟨.arr,0,sz,0,row⟩]⟩:=λZ base nt pl a w r=>by
 have T:Tr h pl w (h++[⟨.arr,0,sz,0,row⟩]) (pl++[none]) w:=Tr.push r.o (λ_ _=>rfl) _ _ (by intro b q e;cases e);refine⟨pl++[none],⟨r.nt,r.defers,λu=>?_,r.o.Bh _ rfl⟩,λb hb=>Mt hb (λq e=>by cases e),λl o p _ ho hp=>⟨o,xX ho,xX hp,rfl,rfl,rfl⟩⟩;show QE Z _ _ w (get (put fr t (.ref h.length 0 0 0)) u) _;rw[FT];by_cases hu:u=t
 ·subst hu;rw[Qf rfl];have:=r.fr u;have this:QE Z h pl w (get fr u) (a.tmps.getD u Go.undef):=this;rw[ht]at this;obtain⟨ad,hv⟩:=Ei this;rw[hv];have Zk:pl.length=h.length:=r.o.len;exact .ref _ _ _ _ ⟨.arr,0,sz,0,row⟩ none ad 0 (by simp) (by rw[<- Zk];simp) rfl (QB _) (λ_=>.inl ⟨rfl,rfl⟩)
 ·rw[Qd hu];exact(r.fr u).tr T
def gp(P:Program)(base nt:Nat)(w0:Start)(Q:Exit->St->Prop)(k:List Item)(I:Nat->St->Prop)(m:Nat):Exit->St->Prop
 | .normal,s=>∃m' s',m'<m/\Qp w0 s s'/\I m' s'
 | e,s=>QA P base nt w0 Q k e s
def QqH{p:Nat->Prop}:∀n,p n->∃m,p m/\∀k,p k->m<=k:=by
 intro n;induction n using Nat.strongRecOn with
 | _ n ih=>
  intro hn;by_cases h:∃k,k<n/\p k
  ·obtain⟨k,hk,hp⟩:=h;exact ih k hk hp
  ·exact⟨n,hn,λk hk=>Nat.le_of_not_lt λQc=>h ⟨k,Qc,hk⟩⟩
def gq{p:Nat->Prop}(h:∃n,p n):∃m,p m/\∀k,p k->m<=k:=let ⟨n,hn⟩:=h;QqH n hn
open Classical in
def MP{c}{k}{s s0}(I)(m0)(hw:Qp w0 s s0)(h0:I m0 s0)(round:∀m s,I m s->QA P base nt w0 (gp P base nt w0 Q k I m) [.code c] .normal s):QA P base nt w0 Q (.code (.loop c)::k) .normal s:=by
 simp only[QA];refine A.X8 hw ?_;intro Z z pl a w r b;let J:Nat->Act->World->Prop:=λm a w=>∃s pl,I m s/\Rel Z base nt s pl a w/\Vp Z base w0 s.h pl w;let μ:Act->World->Nat:=λa w=>if h:∃m,J m a w then Classical.choose (gq h) else 0;refine wp_loop (λa w=>∃m,J m a w) μ ⟨m0,s0,pl,h0,r,b⟩ λa w hJ=>?_;have hm:=(Classical.choose_spec (gq hJ)).1;have hμ:μ a w=Classical.choose (gq hJ):=by simp only[μ];rw[dif_pos hJ]
 obtain⟨s1,pl1,hI,r1,b1⟩:=hm;have:=round _ s1 hI;simp only[QA]at this;refine wp_mono (this Z z pl1 a w r1 b1) λe a' w' hh=>?_;obtain⟨s2,Po,hq,r2,b2⟩:=hh;cases e with
 | normal=>
  obtain⟨m',s3,Qc,hwk,hI3⟩:=hq;obtain⟨pl3,r3,b3⟩:=hwk Z z base nt Po a' w' r2 b2;have gu:J m' a' w':=⟨s3,pl3,hI3,r3,b3⟩;refine⟨⟨m',gu⟩,?_⟩;rw[hμ];have:μ a' w'<=m':=by simp only[μ];rw[dif_pos ⟨m',gu⟩];exact(Classical.choose_spec (gq (p:=λm=>J m a' w') ⟨m',gu⟩)).2 m' gu
  omega
 | exit id=>exact⟨s2,Po,hq,r2,b2⟩
 | goto l=>exact⟨s2,Po,hq,r2,b2⟩
 | ret=>exact⟨s2,Po,hq,r2,b2⟩
 | panic ch=>exact⟨s2,Po,hq,r2,b2⟩
 | outgrown=>exact⟨s2,Po,hq,r2,b2⟩
end
end Go.Fg
namespace Go.Fg
def QqM{P}{base nt}{w0}{Q}{c}{s}(h:QA P base nt w0 Q [.code c] .normal s):A P base nt w0 c Q s:=by
 simp only[QA]at h;exact h.mono λe s' he=>by cases e<;>exact he
def Qff{P:Program}{X}(hX:zB P X){f}{fn:Func}{c}(n)(hf:P.funcs[f]? = some fn)(hb:fn.body=some c){F}{args:List D}{R}{nt}(vR:fn.ntmps=nt)(hn:args.length<=nt)
  (h:∀(base:Nat) (w:World) (pl:List Pl),base<=w.heap.size->pl.length=F.length->(exec X nt n [.code c] ⟨x9 args 0,F⟩).holds P base nt ⟨w,F,pl⟩ (F6 X.L fn.results.toList R)):QK P f F args R:=
 QqA hX.L hf hb (by rw[vR];exact hn) λbase w pl Zd hlen=>QqM (by rw[vR];exact vP hX Zd n _ _ (h base w pl Zd hlen))
end Go.Fg
namespace Go.Fg
open Go.RowKit (Below)
variable {Z:Nat->Prop}
inductive CU (ops:Array Oper) (ZL:Array Bool) (i:Nat):Nat->Prop
 | Uj (j:Nat) (oj:Oper) (e:Edge) (hj:ops[j]? = some oj) (he:e∈oj.after) (hb:Region.binds .any e=true) (h:e.on=i):CU ops ZL i j
 | step (j:Nat) (oj:Oper) (e:Edge) (hj:ops[j]? = some oj) (he:e∈oj.after) (hb:Region.binds .any e=true) (hu:ZL.getD e.on true=false) (h:CU ops ZL i e.on):CU ops ZL i j
def both{ZL:Array Bool}{i}(h:ZL.getD i true=false):ZL.getD i false=false:=by
 rcases Bb i ZL.size with h'|h'
 ·simp[h']at h ⊢;exact h
 ·simp[Array.getElem?_eq_none h']at h
def CU.Qfg{ops}{ZL:Array Bool}{i j}(h:CU ops ZL i j)(hi:ZL.getD i true=false):j ∉ Region.ready .any ops ZL:=by
 intro hr;obtain⟨_,oj',K8,KS⟩:=mem_ready.1 hr;cases h with
 | Uj _ oj e hj he hb h=>
  rw[hj]at K8;cases K8;have:=KS e he hb;rw[h,both hi]at this;cases this
 | step _ oj e hj he hb hu h=>
  rw[hj]at K8;cases K8;have:=KS e he hb;rw[both hu]at this;cases this
def CU.set{ops}{ZL:Array Bool}{i j k}(h:CU ops ZL i j)(hi:ZL.getD i true=false)(hk:k∈Region.ready .any ops ZL):CU ops (ZL.setIfInBounds k true) i j:=by
 induction h with
 | Uj j oj e hj he hb h=>exact .Uj j oj e hj he hb h
 | step j oj e hj he hb hu h ih=>
  refine .step j oj e hj he hb ?_ ih;have:k≠e.on:=λhek=>by subst hek;exact h.Qfg hi hk
  rw[getD_set_ne true this];exact hu
def Bv(P:Program)(ops:Array Oper)(N:Act->World->Prop)(cm:Nat->World->World->Prop):Nat->Array Bool->Act->World->Prop
 | 0,ZL,a,w=>Region.ready .any ops ZL=[]/\N a w
 | n+1,ZL,a,w=>(Region.ready .any ops ZL=[]->N a w) /\
  ∀i∈Region.ready .any ops ZL,wpOp P ops (λ_ _ _=>False) i (λa' w'=>cm i w w'/\Bv P ops N cm n (ZL.setIfInBounds i true) a' w') a w
def QqO{P}{o:Oper}{a}{w}{K}{Q}(h:o.wp P a w K (λ_ _ _=>False)):o.wp P a w K Q:=by
 unfold Oper.wp at *;generalize (execOp a.eval o).run P w=r at *;cases r with
 | ok n w'=>
  cases n<;>simp only[Oper.upon]at h ⊢<;>first|exact h|skip
  ·exact Calls.mono h λe Ms he=>by cases e<;>first|exact he|exact he.elim|exact(let ⟨_,_,h⟩:=he;h.elim)
 | halt x w'=>cases x<;>simp only[Oper.upon]at h ⊢<;>exact h.elim
def gv{P}{ops}{N}{cm}{Q}(hQ:∀a w,N a w->Q .normal a w):∀(n:Nat) (ZL:Array Bool) (a:Act) (w:World),Bv P ops N cm n ZL a w->wpAny P .any ops Q n ZL a w
 | 0,_,_,_,h=>⟨h.1,hQ _ _ h.2⟩
 | n+1,ZL,a,w,h=>⟨λe=>hQ _ _ (h.1 e),λi hi=>by
  have:=h.2 i hi;unfold wpOp at this ⊢;split
  ·rename_i ho;simp only[ho]at this;exact gv hQ n _ _ _ this.2
  ·rename_i o ho;simp only[ho]at this;split
   ·rename_i hw;simp only[hw,K6]at this;rcases this with h1|⟨_,_,_,h2⟩
    ·exact .inl (QqO (Oper.wp_mono (λa' w' h'=>gv hQ n _ _ _ h'.2) h1))
    ·exact h2.elim
   ·rename_i hw;simp only[hw]at this;exact gv hQ n _ _ _ this.2⟩
def still(L:Jt)(o:Oper):Bool:=match o.op with
 | .extract ..=>true
 | .move _=>true
 | .nilCheck _=>true
 | .fieldAddr t _ f=>match O1 L t f with
  | some (_,y)=>!Nat.beq y.size 0
  | none=>false
 | _=>false
def QqP{P}{L}(hL:Jq P L){o:Oper}(hs:still L o=true){ρ}{w}{v}(h:(execOp ρ o).run P w=.ok (.value v) w)(w'):(execOp ρ o).run P w'=.ok (.value v) w':=by
 unfold still at hs;split at hs
 ·rename_i x i ho;simp only[execOp,ho,Instr.extract]at h ⊢;split at h<;>first|skip|(simp at h)
  all_goals (first|(split at h<;>first|(simp at h)|skip)|skip)
  all_goals (first|(simp at h ⊢;exact h)|simp_all)
 ·rename_i x ho;simp only[execOp,ho]at h ⊢;simp at h ⊢;exact h
 ·rename_i x ho;exact((VF.nilCheck ho ρ) w _ w h).2 w'
 ·rename_i t x f ho;split at hs
  ·rename_i off y hf;obtain⟨g,fd,hg,HN,_,hy⟩:=pX hL hf;have pY:y.size≠0:=λe=>by rw[e]at hs;cases hs
   cases hx:ρ x with
   | pointer a=>
    cases a with
    | some a=>
     have e:∀w:World,(execOp ρ o).run P w=.ok (.value (.pointer (some (a.add fd.offset)))) w:=λw=>by
      simp[execOp,ho,hx,Instr.fieldAt,run_underlying hg,HN,Instr.sureAddr,fieldPlace,hy.sizeOf,pY]
     rw[e w]at h;rw[e w'];simp at h ⊢;exact h
    | none=>simp[execOp,ho,hx,Instr.fieldAt,run_underlying hg,HN,Instr.sureAddr,stuck]at h
   | _=>simp[execOp,ho,hx,Instr.fieldAt,run_underlying hg,HN,Instr.sureAddr,stuck]at h
  ·cases hs
 ·cases hs
def QqQ{P}{ops:Array Oper}{N}{cm}{i}{oi}{v}{S}(gw:∀w,cm i w w)(hi:ops[i]? = some oi)(Pp:∀(j:Nat) (o:Oper) cs b,ops[j]? = some o->o.op≠.select cs b):
  ∀(fuel:Nat) (ZL:Array Bool) (a:Act) (w1:World),S w1 ->
   (∀j oj,ops[j]? = some oj->j≠i->ZL.getD j true=false->CU ops ZL i j\/((∀w w',cm j w w'->S w->S w')/\oi.apart ops oj=true)) ->
   i∈Region.ready .any ops ZL->YieldsIf P ops S oi v a ->
   Bv P ops N cm fuel (ZL.setIfInBounds i true) (a.put oi.dst v) w1->Bv P ops N cm (fuel+1) ZL a w1:=by
 intro fuel;induction fuel with
 | zero=>
  intro ZL a w1 MQ _ hr hy H;refine⟨λh=>(by rw[h]at hr;cases hr),λj hj=>?_⟩;by_cases xl:j=i
  ·subst xl;exact hy.wpOp hi MQ ⟨gw _,H⟩
  ·have:=ready_mono hj xl;rw[H.1]at this;cases this
 | succ fuel ih=>
  intro ZL a w1 MQ Pq hr hy H;have zC:=(mem_ready.1 hr).1;refine⟨λh=>(by rw[h]at hr;cases hr),λj hj=>?_⟩;by_cases xl:j=i
  ·subst xl;exact hy.wpOp hi MQ ⟨gw _,H⟩
  ·have h1:=H.2 j (ready_mono hj xl);obtain⟨gy,oj,K8,KS⟩:=mem_ready.1 hj;obtain⟨gz,Pr⟩:=(Pq j oj K8 xl gy).resolve_left λhd=>hd.Qfg zC hj;have h2:=wpOp_putIf K8 Pr (λcs b=>Pp i oi cs b hi) (λcs b=>Pp j oj cs b K8) (λ_ _ _ h=>h) hy h1;refine wpOp_mono (λa' w' h3=>?_) h2;refine⟨h3.2.1,ih (ZL.setIfInBounds j true) a' w' (gz _ _ h3.2.1 MQ) (λk ok hk TQ Qfh=>?_) (ready_mono hr (Q8 xl)) h3.1 ?_⟩
   ·have hku:ZL.getD k true=false:=by
     by_cases V7:j=k
     ·subst V7;exact gy
     ·rw[getD_set_ne true V7]at Qfh;exact Qfh
    exact(Pq k ok hk TQ hku).imp (λhd=>hd.set zC hj) id
   ·rw[Array.setIfInBounds_comm _ _ xl];exact h3.2.2
def Vi(i:Nat):List Nat->Bool
 | []=>false
 | j::r=>Nat.beq i j || Vi i r
def ya{i}:∀{l:List Nat},Vi i l=true↔i∈l
 | []=>by simp[Vi]
 | j::r=>by simp[Vi,ya (l:=r)]
def gA(i:Nat):List Edge->Bool
 | []=>false
 | e::r=>(Region.binds .any e&&Nat.beq e.on i) || gA i r
def vS(done:List Nat):List Edge->Bool
 | []=>false
 | e::r=>(Region.binds .any e&&!Vi e.on done) || vS done r
def Ps(ops:Array Oper)(done:List Nat)(i:Nat):Nat->List Edge->Bool
 | 0,_=>false
 | _+1,[]=>false
 | n+1,e::r=>(Region.binds .any e&&(Nat.beq e.on i || (!Vi e.on done&&match ops[e.on]? with
   | some o=>Ps ops done i n o.after.toList
   | none=>false))) || Ps ops done i n r
def EC(o:Oper):Bool:=match o.op with
 | .load ..=>true
 | _=>false
def ED(o:Oper):Bool:=match o.op with
 | .insert ..=>true
 | _=>false
def Uk(nc:List Nat)(L:Jt)(ops:Array Oper)(done:List Nat)(i:Nat)(oi:Oper):List (Nat × Bool × Option Oper)->Bool
 | []=>true
 | (j,_,some oj)::r=>(gA i oj.after.toList || (((calm oj&&!Vi j nc) || still L oi || (EC oi&&ED oj))&&oi.apart ops oj) || Ps ops done i (4*ops.size) oj.after.toList)&&Uk nc L ops done i oi r
 | (_,_,none)::_=>false
def gB(l:List Nat):Nat->Bool
 | 0=>true
 | n+1=>Vi n l&&gB l n
def Qfi{l}:∀{n:Nat},gB l n=true->∀j,j<n->j∈l
 | 0,_,j,h=>by omega
 | n+1,h,j,hj=>by
  simp only[gB,Z9,ya]at h;by_cases e:j=n
  ·subst e;exact h.1
  ·exact Qfi h.2 j (by omega)
def Qfj{i}:∀{l:List Edge},gA i l=true->∃e∈l,Region.binds .any e=true/\e.on=i
 | [],h=>by cases h
 | e::r,h=>by
  simp only[gA,Cr,Z9,Wp]at h;rcases h with h|h
  ·exact⟨e,by simp,h.1,h.2⟩
  ·obtain⟨e',h1,h2⟩:=Qfj h;exact⟨e',by simp[h1],h2⟩
def Qfk{done}:∀{l:List Edge},vS done l=true->∃e∈l,Region.binds .any e=true/\e.on ∉ done
 | [],h=>by cases h
 | e::r,h=>by
  simp only[vS,Cr,Z9,jL]at h;rcases h with h|h
  ·exact⟨e,by simp,h.1,λhm=>by rw[ya.2 hm]at h;cases h.2⟩
  ·obtain⟨e',h1,h2⟩:=Qfk h;exact⟨e',by simp[h1],h2⟩
def gC{done}:∀{l:List Edge},vS done l=false->∀e∈l,Region.binds .any e=true->e.on∈done
 | [],_,e,h,_=>by cases h
 | e::r,h,e',h',hb=>by
  simp only[vS,Hy,Me]at h;rcases QM.1 h' with h1|h1
  ·subst h1;rcases h.1 with h2|h2
   ·rw[hb]at h2;cases h2
   ·exact ya.1 (by simpa using h2)
  ·exact gC h.2 e' h1 hb
structure Marks (ops:Array Oper) (ZL:Array Bool) (done:List Nat):Prop where
 size:ZL.size=ops.size
 get:∀j,j<ops.size->(ZL.getD j true=false↔j ∉ done)
 get':∀j,ZL.getD j false=true↔j∈done/\j<ops.size
 lt:∀j,j∈done->j<ops.size
def Marks.set{ops:Array Oper}{ZL:Array Bool}{done}(M:Marks ops ZL done){i}(hi:i<ops.size):Marks ops (ZL.setIfInBounds i true) (i::done) where
 size:=by simp[M.size]
 get:=λj hj=>by
  by_cases e:i=j
  ·subst e;simp[M.size,hi]
  ·rw[getD_set_ne true e,M.get j hj];simp[Q8 e]
 get':=λj=>by
  by_cases e:i=j
  ·subst e;simp[M.size,hi]
  ·rw[getD_set_ne false e,M.get' j];simp[Q8 e]
 lt:=λj hj=>by
  rcases QM.1 hj with e|e
  ·subst e;exact hi
  ·exact M.lt j e
def jo(o:Oper):Bool:=match o.op with
 | .alloc _=>true
 | .makeMap _ none=>true
 | _=>false
def Ij(P:Program)(o:Oper)(ob:Ob)(mk:Nat->D):Prop:=∃(obj:Obj) (val:Nat->Value),
 (∀(ρ:Operand->Value) (w:World),(execOp ρ o).run P w=.ok (.value (val w.heap.size)) (w.alloc obj)) /\
 (∀(Z:Nat->Prop) (h:List Ob) (pl:List Pl) (w:World) (b:Nat),w.heap[b]? = some obj->KF Z h pl w ob b 0) /\
 (∀(Z:Nat->Prop) (h:List Ob) (pl:List Pl) (w:World) (l b:Nat),h[l]? = some ob->pl[l]? = some (some (b,0))->QE Z h pl w (mk l) (val b))
def Qfl{P}{L}(hL:Jq P L){o:Oper}{t:TypeId}(ho:o.op=.alloc t){y}(hy:ty L t=some y):
  Ij P o ⟨.one,0,(y.zero.map Kq).length,1,λ_=>y.zero.map Kq⟩ (λl=>.ptr l 0 0 0):=by
 obtain⟨z,hz,Zl⟩:=(hL _ _ hy).zeroValue;refine⟨.cells z.cells t,λb=>.pointer (some ⟨b,0,none⟩),fun ρ w=>?_,λZ h pl w b hb=>?_,λZ h pl w l b h1 h2=>?_⟩
 ·simp[execOp,ho,Instr.alloc,newVar,newRow,Zl]
 ·refine .Mq rfl ⟨z.cells,t,hb,by simp[<- hz],λ_ _=>rfl,λi j hi hj=>?_⟩;have rh:i=0:=by simp at hi;omega
  subst rh;have WQ:j<z.cells.size:=by rw[<- hz]at hj;simpa using hj
  refine⟨Zb z.cells.toList j,?_,.cl _ _ ?_⟩
  ·simp only[Nat.zero_mul,JV,Zb,Ze];rw[wQ,kv WQ];rfl
  ·rw[<- hz];simp only[nth,Zb,Ze,KG,wQ,kv WQ,K0,KA];exact Eh _ _ _
 ·exact .ptr _ _ _ _ _ (some (b,0)) _ h1 h2 rfl (QB _) (λ_=>⟨_,_,rfl,by simp⟩)
def Qfm{P}{o:Oper}{t:TypeId}(ho:o.op=.makeMap t none)(q):Ij P o (QS q 0 []) (λl=>.mref l 0):=by
 refine⟨.map #[] 0,λb=>.map (some b),fun ρ w=>?_,λZ h pl w b hb=>?_,λZ h pl w l b h1 h2=>?_⟩
 ·simp[execOp,ho,Instr.makeMap]
 ·exact rP (kd:=.map) hb ⟨rfl,λi e a h=>by simp at h,λi j a a' _ h=>by simp at h⟩ rfl
 ·exact .mref _ _ (QS q 0 []) (some (b,0)) b h1 h2 ⟨by simp[QS,Wr,Kd.ty],rfl⟩ (QB _) (λ_=>rfl)
section
variable (P:Program)(base nt:Nat)(w0:Start)
def F8(o : Oper): Bool := calm o && !(o.pos == "!")
def qT(b : Bool)(o : Oper): Oper := ⟨o.dst, o.op, o.type, bif b then "!" else "", #[], none⟩
theorem Qfn{P}{b}{o:Oper}{a}{w}{K}{Q}:(qT b o).wp P a w K Q=o.wp P a w K Q:=rfl
def QqS(b)(o):F8 (qT b o)=(calm o&&!b):=by cases b<;>simp[F8,qT,calm]
def vT(o:Oper)(w w':World):Prop:=match o.op with
 | .insert ..=>kC w w'
 | _=>F8 o=true->Ext w w'
def vT.ext{o}{w w'}(h:Ext w w'):vT o w w':=by
 unfold vT;split
 ·exact .ext h
 ·exact λ_=>h
def vT.calm{o}{w w'}(h:vT o w w')(hc:F8 o=true):Ext w w':=by
 unfold vT at h;split at h
 ·rename_i ho;simp[F8,Go.Fg.calm,ho]at hc
 ·exact h hc
def vT.ins{o}{w w'}(h:vT o w w')(hc:ED o=true):kC w w':=by
 unfold ED at hc;split at hc
 ·rename_i ho;unfold vT at h;rw[ho]at h;exact h
 ·cases hc
def vT.mk{o}{w w'}(h:F8 o=true->Ext w w')(hi:ED o=false):vT o w w':=by
 unfold vT;split
 ·rename_i ho;simp[ED,ho]at hi
 ·exact h
def yc(nc:List Nat)(ops:Array Oper)(i:Nat)(w w':World):Prop:=match ops[i]? with
 | some o=>vT (qT (Vi i nc) o) w w'
 | none=>True
def MS{nc}{ops:Array Oper}{i}{o}{w w'}(ho:ops[i]? = some o):yc nc ops i w w'=vT (qT (Vi i nc) o) w w':=by simp only[yc,ho]
def AE(o:Oper)(F:St->Prop)(s:St):Prop:=∀(Z:Nat->Prop),TZ w0 Z->∀pl a w,Rel Z base nt s pl a w->Vp Z base w0 s.h pl w ->
 o.wp P a w (λa' w'=>vT o w w'/\∃d h' Qm v,F ⟨ZC s.fr o.dst d,h'⟩/\Rel Z base nt ⟨ZC s.fr o.dst d,h'⟩ Qm a' w'/\Vp Z base w0 h' Qm w'/\Tr s.h pl w h' Qm w'/\a'=a.put o.dst v) (λ_ _ _=>False)
def XR(pu:Bool)(o:Oper)(F:St->Prop)(s:St):Prop:=match pu with
 | true=>∃d,WE P base nt o s d/\(EC o=true->eY P base nt o s d)/\ZQ nt o.dst=true/\F ⟨ZC s.fr o.dst d,s.h⟩
 | false=>match jo o with
  | true=>∃ob mk,Ij P o ob mk/\ZQ nt o.dst=true/\F ⟨ZC s.fr o.dst (mk s.h.length),s.h++[ob]⟩
  | false=>AE P base nt w0 o F s
def AX(K:St->Prop):List (Bool × Oper × G)->St->Prop
 | [],s=>K s
 | (pu,o,g)::r,s=>match g with
  | none=>XR P base nt w0 pu o (AX K r) s
  | some (none,_)=>ZQ nt o.dst=true/\AX K r ⟨ZC s.fr o.dst (.raw Go.undef),s.h⟩
  | some (some t,b)=>match get s.fr t with
   | .raw (.bool x)=>(x=b->XR P base nt w0 pu o (AX K r) ⟨put s.fr t (.raw (.bool b)),s.h⟩) /\
     (x=(!b)->ZQ nt o.dst=true/\AX K r ⟨ZC (put s.fr t (.raw (.bool (!b)))) o.dst (.raw Go.undef),s.h⟩)
   | .raw (.tuple _)=>ZQ nt o.dst=true/\AX K r ⟨ZC s.fr o.dst (.raw Go.undef),s.h⟩
   | _=>False
end
def VO(nc:List Nat)(ops:Array Oper)(l:List (Nat × Bool)):List (Bool × Oper × G):=l.map λip=>match ops[ip.1]? with
 | some o=>(ip.2,qT (Vi ip.1 nc) o,guardOf ops o)
 | none => (ip.2, ⟨none, .move (.tmp 0), 0, "", #[], none⟩, none)
section
variable {nc:List Nat}{P:Program}{base nt:Nat}{w0:Start}
def QqT{o:Oper}{ob}{mk}{F}{s:St}(h:Ij P o ob mk)(ht:ZQ nt o.dst=true)(Zd:base<=w0.w.heap.size)(hF:F ⟨ZC s.fr o.dst (mk s.h.length),s.h++[ob]⟩):AE P base nt w0 o F s:=by
 intro Z z pl a w r b;obtain⟨obj,val,h1,h2,h3⟩:=h;have e:∀k,k<w.heap.size->(w.alloc obj).heap[k]? = w.heap[k]? := λk hk=>xY w obj k hk;have Kb:(w.alloc obj).heap[w.heap.size]? = some obj:=heap_alloc_new w obj;have jm:base<=w.heap.size:=KZ Zd b.1.size;have T:Tr s.h pl w (s.h++[ob]) (pl++[some (w.heap.size,0)]) (w.alloc obj):=Tr.push r.o e _ _ (by intro k q hh;simp at hh;omega);have R':=Zv.TI r.o e ob (QB _) jm (h2 Z (s.h++[ob]) (pl++[some (w.heap.size,0)]) _ _ Kb);have hv:QE Z (s.h++[ob]) (pl++[some (w.heap.size,0)]) (w.alloc obj) (mk s.h.length) (val w.heap.size):=h3 Z _ _ _ _ _ (by simp) (by rw[<- r.o.len];simp);unfold Oper.wp;rw[h1 a.eval w];simp only[Oper.upon_value];refine⟨vT.ext λk hk=>e k hk,_,_,_,_,hF,?_,b.step T (FX jm obj),T,rfl⟩;cases hd:o.dst with
 | none=>exact r.Bg T R' _
 | some t=>rw[hd]at ht;exact r.to T R' (kI ht) hv
def XR.ae(Zd:base<=w0.w.heap.size){o}{F}{s}(h:XR P base nt w0 false o F s):AE P base nt w0 o F s:=by
 simp only[XR]at h;split at h
 ·obtain⟨ob,mk,h1,h2,h3⟩:=h;exact QqT h1 h2 Zd h3
 ·exact h
def QE.Pt{Z Z'}{h h'}{pl Qm}{w w':World}(hf:∀b,free Z pl b->b<w.heap.size->free Z' Qm b/\w'.heap[b]? = w.heap[b]?)
  (EF:∀(l:Nat) (o:Ob) (p:Pl),h[l]? = some o->pl[l]? = some p->h'[l]? = some o/\Qm[l]? = some p) (hb:∀(l b q:Nat),pl[l]? = some (some (b,q))->w'.heap[b]? = w.heap[b]?) {d:D} {v:Value} (r:QE Z h pl w d v):QE Z' h' Qm w' d v:=by
 induction r with
 | cl d v hc=>exact .cl d v (hc.mono hf)
 | ref l g off len o p a cap ho hp hk hg hs=>
  refine .ref l g off len o p a cap (EF l o p ho hp).1 (EF l o p ho hp).2 hk hg λAb=>?_;rcases hs Ab with h1|⟨b,q,c,el,WD,ha,KR,hc,hl⟩
  ·exact .inl h1
  ·exact .inr ⟨b,q,c,el,WD,ha,by rw[hb l b q (by rw[hp,WD])];exact KR,hc,hl⟩
 | ptr l g i j o p a ho hp hk hg hs=>exact .ptr l g i j o p a (EF l o p ho hp).1 (EF l o p ho hp).2 hk hg hs
 | mref l g o p b ho hp hk hg hs=>exact .mref l g o p b (EF l o p ho hp).1 (EF l o p ho hp).2 hk hg hs
 | clo f nf cs vs hl hr ih=>exact .clo f nf cs vs hl ih
 | agg cs vs hl hr ih=>exact .agg cs vs hl ih
 | tup cs vs hl hr ih=>exact .tup cs vs hl ih
def Zv.Pt{Z Z'}{h}{pl}{w w':World}(R:Zv Z base h pl w)(hf:∀b,free Z pl b->b<w.heap.size->free Z' pl b/\w'.heap[b]? = w.heap[b]?)(e:∀b,b<w.heap.size->w'.heap[b]? = w.heap[b]?):Zv Z' base h pl w' where
 len:=R.len
 inj:=R.inj
 VM:=R.VM
 at_:=λl o b q ho hp=>by
  obtain⟨h1,x⟩:=R.at_ l o b q ho hp;exact⟨h1,x.to rfl rfl rfl (e b (R.lt hp).1) (λ_ _=>rfl) λi j v _ _ hr=>hr.Pt hf (λ_ _ _ a b=>⟨a,b⟩) (λl b q hp=>e b (R.lt hp).1)⟩
def Zv.QaV{Z Z'}{h}{pl}{w}(R:Zv Z base h pl w){b}(hf:∀c,free Z pl c->free Z' (pl++[some (b,0)]) c)(ha:XN pl b)(Zd:base<=b){ob}
  (hx:KF Z' (h++[ob]) (pl++[some (b,0)]) w ob b 0):Zv Z' base (h++[ob]) (pl++[some (b,0)]) w:=by
 refine⟨by simp[R.len],?_,?_,?_⟩
 ·intro l l' b' q q' e1 e2;rcases Xe e1 with h1|⟨h1,JE⟩<;>rcases Xe e2 with h2|⟨h2,YQ⟩
  ·exact R.inj l l' b' q q' h1 h2
  ·simp at YQ;obtain⟨rfl,rfl⟩:=YQ;exact absurd h1 (ha l q)
  ·simp at JE;obtain⟨rfl,rfl⟩:=JE;exact absurd h2 (ha l' q')
  ·omega
 ·intro l o ho e1;rcases Xe e1 with h1|⟨h1,JE⟩
  ·rcases Xe ho with h2|⟨h2,YQ⟩
   ·exact R.VM l o h2 h1
   ·have:=Wq h1;have:=R.len;omega
  ·simp at JE
 ·intro l o b' q ho Zk;rcases Xe Zk with h1|⟨h1,JE⟩
  ·rcases Xe ho with h2|⟨h2,YQ⟩
   ·obtain⟨g1,x⟩:=R.at_ l o b' q h2 h1;exact⟨g1,x.to rfl rfl rfl rfl (λ_ _=>rfl) λi j v _ _ hr=>hr.Pt (λc hc _=>⟨hf c hc,rfl⟩) (λ_ _ _ a b=>⟨xX a,xX b⟩) (λ_ _ _ _=>rfl)⟩
   ·have:=Wq h1;have:=R.len;omega
  ·rcases Xe ho with h2|⟨h2,YQ⟩
   ·have:=Kr h2;have:=R.len;omega
   ·subst YQ;simp at JE;obtain⟨rfl,rfl⟩:=JE;exact⟨λ_=>Zd,hx⟩
def VV(ops:Array Oper)(i:Nat):Bool:=match ops[i]? with
 | some o=>jo o&&o.guard.isNone&&o.after.toList.isEmpty
 | none=>false
def Pu(ops:Array Oper)(done:List Nat)(i:Nat):List Edge->Bool
 | []=>false
 | e::r=>(Region.binds .any e&&!Vi e.on done&&(!VV ops e.on || Nat.beq e.on i)) || Pu ops done i r
def Ul(ops:Array Oper)(done:List Nat)(i:Nat):List (Nat × Bool × Option Oper)->Bool
 | []=>true
 | (j,_,some oj)::r=>(VV ops j || Pu ops done i oj.after.toList)&&Ul ops done i r
 | (_,_,none)::_=>false
def MT(ops:Array Oper)(R:List Nat):List (Nat × Bool × Option Oper):=R.map λi=>(i,false,ops[i]?)
def F9(nc:List Nat)(L:Jt)(ops:Array Oper)(R:List Nat):List (Nat × Bool × Option Oper)->List Nat->Bool
 | [],_=>true
 | (i,p,some o)::r,done=>!Vi i done&&!vS done o.after.toList&&(match p with
  | true=>!VV ops i&&Uk nc L ops done i o (r++MT ops R)
  | false=>Ul ops done i (r++MT ops R))&&F9 nc L ops R r (i::done)
 | (_,_,none)::_,_=>false
def Qfo{ops}{done}{i}:∀{l:List Edge},Pu ops done i l=true->∃e∈l,Region.binds .any e=true/\e.on ∉ done/\(VV ops e.on=false\/e.on=i)
 | [],h=>by cases h
 | e::r,h=>by
  simp only[Pu,Cr,Z9,jL,Wp]at h;rcases h with h|h
  ·exact⟨e,by simp,h.1.1,(λhm=>by rw[ya.2 hm]at h;exact absurd h.1.2 (by simp)),h.2⟩
  ·obtain⟨e',h1,h2⟩:=Qfo h;exact⟨e',by simp[h1],h2⟩
def Qfp{ops:Array Oper}{done}{i}:∀{r:List (Nat × Bool × Option Oper)},(∀x∈r,x.2.2=ops[x.1]?)->Ul ops done i r=true->∀x∈r,∀oj,ops[x.1]? = some oj->VV ops x.1=true\/Pu ops done i oj.after.toList=true
 | [],_,_,x,hx,_,_=>by cases hx
 | (j,p,none)::r,_,h,_,_,_,_=>by cases h
 | (j,p,some o)::r,hr,h,x,hx,oj,K8=>by
  simp only[Ul,Z9,Cr]at h;rcases QM.1 hx with h1|h1
  ·subst h1;have e:some o=ops[j]? := hr (j,p,some o) (by simp);have K8:ops[j]? = some oj:=K8;rw[K8]at e;cases e;exact h.1
  ·exact Qfp (λy hy=>hr y (by simp[hy])) h.2 x h1 oj K8
abbrev En:=Nat × Bool × Option Nat
def X9(l:List En):List Nat:=l.map (·.1)
def qp(l:List En):List (Nat × Bool):=l.map λx=>(x.1,x.2.1)
def early:List En->List Nat
 | []=>[]
 | (i,_,some _)::r=>i::early r
 | (_,_,none)::r=>early r
def blocks:List En->List Nat
 | []=>[]
 | (_,_,some b)::r=>b::blocks r
 | (_,_,none)::r=>blocks r
def qq:List En->Nat
 | []=>0
 | (_,_,some _)::r=>qq r
 | (_,_,none)::r=>qq r+1
def MU{j}:∀{l:List En},j∈early l↔∃p b,(j,p,some b)∈l
 | []=>by simp[early]
 | (i,p,some b)::r=>by
  simp only[early,QM,MU (l:=r),Zp,Za];constructor
  ·rintro (rfl|⟨p',b',h⟩)
   ·exact⟨p,b,.inl ⟨rfl,rfl,rfl⟩⟩
   ·exact⟨p',b',.inr h⟩
  ·rintro⟨p',b',⟨rfl,_⟩|h⟩
   ·exact .inl rfl
   ·exact .inr ⟨p',b',h⟩
 | (i,p,none)::r=>by
  simp only[early,QM,MU (l:=r),Zp,reduceCtorEq,and_false,false_or]
def Ga{c}:∀{l:List En},c∈blocks l↔∃j p,(j,p,some c)∈l
 | []=>by simp[blocks]
 | (i,p,some b)::r=>by
  simp only[blocks,QM,Ga (l:=r),Zp,Za];constructor
  ·rintro (rfl|⟨p',b',h⟩)
   ·exact⟨i,p,.inl ⟨rfl,rfl,rfl⟩⟩
   ·exact⟨p',b',.inr h⟩
  ·rintro⟨p',b',⟨_,_,rfl⟩|h⟩
   ·exact .inl rfl
   ·exact .inr ⟨p',b',h⟩
 | (i,p,none)::r=>by
  simp only[blocks,QM,Ga (l:=r),Zp,reduceCtorEq,and_false,false_or]
def sg{j:Nat}{p:Bool}{b:Nat}{l2:List En}:∀l1:List En,qq (l1++(j,p,none)::l2)=qq (l1++(j,p,some b)::l2)+1
 | []=>rfl
 | (_,_,some _)::r=>sg r
 | (_,_,none)::r=>by
  simp only[qJ,qq];rw[sg (b:=b) r]
def si{j:Nat}{p:Bool}{b:Nat}{l2:List En}:∀l1:List En,b ∉ blocks (l1++(j,p,none)::l2)->(blocks (l1++(j,p,none)::l2)).Nodup->(blocks (l1++(j,p,some b)::l2)).Nodup
 | [],h,k=>by simp only[zo,blocks]at h k ⊢;exact Jf.2 ⟨h,k⟩
 | (i,q,some c)::r,h,k=>by
  simp only[qJ,blocks,QM,zw]at h k ⊢;obtain⟨k1,k2⟩:=Jf.1 k;refine Jf.2 ⟨λhm=>?_,si r h.2 k2⟩;obtain⟨j',p',hj⟩:=Ga.1 hm;rcases Q9.1 hj with h1|h1
  ·exact k1 (Ga.2 ⟨j',p',Q9.2 (.inl h1)⟩)
  ·rcases QM.1 h1 with h2|h2
   ·cases h2;exact h.1 rfl
   ·exact k1 (Ga.2 ⟨j',p',Q9.2 (.inr (QM.2 (.inr h2)))⟩)
 | (i,q,none)::r,h,k=>by
  simp only[qJ,blocks]at h k ⊢;exact si r h k
structure gD (P:Program) (ops:Array Oper) (nt:Nat) (w0:Start) (pl:List Pl) (a:Act) (w:World) (i b:Nat):Prop where
 run:∃(o:Oper) (d:Nat) (w1:World) (ρ:Operand->Value) (v:Value) (obj:Obj),ops[i]? = some o/\o.dst=some d/\(execOp ρ o).run P w1=.ok (.value v) (w1.alloc obj)/\b=w1.heap.size/\w.heap[b]? = some obj/\(d<nt->a.tmps.getD d Go.undef=v)
 XN:XN pl b
 low:w0.w.heap.size<=b
def Qfq{a:Act}{t:Option Nat}{d:Nat}{v:Value}(h:t≠some d):(a.put t v).tmps.getD d Go.undef=a.tmps.getD d Go.undef:=by
 cases t with
 | none=>rfl
 | some t=>
  have:t≠d:=λe=>h (by rw[e]);simp[Act.put,y6,pJ this]
def gD.step{P:Program}{ops:Array Oper}{nt:Nat}{w0:Start}{h h':List Ob}{pl Qm:List Pl}{a:Act}{w w':World}{i b:Nat}(p:gD P ops nt w0 pl a w i b)(T:Tr h pl w h' Qm w'){t:Option Nat}(v:Value)
  (hd:∀o d,ops[i]? = some o->o.dst=some d->t≠some d):gD P ops nt w0 Qm (a.put t v) w' i b:=by
 obtain⟨o,d,w1,ρ,u,obj,h1,h2,h3,h4,h5,h6⟩:=p.run;obtain⟨k1,k2⟩:=T.KE b p.XN (vI h5);exact⟨⟨o,d,w1,ρ,u,obj,h1,h2,h3,h4,by rw[k2];exact h5,λhn=>by rw[Qfq (hd o d h1 h2)];exact h6 hn⟩,k1,p.low⟩
def gF{fr}{t}{u}{d}(h:t≠some u):get (ZC fr t d) u=get fr u:=by
 cases t with
 | none=>rfl
 | some t=>rw[ZC,FT,Qd (λe=>h (by rw[e]))]
structure Al (nc:List Nat) (P:Program) (L:Jt) (ops:Array Oper) (R:List Nat) (base nt:Nat) (w0:Start) (Z0 Z:Nat->Prop) (l:List En) (done:List Nat) (ZL:Array Bool) (s:St) (pl:List Pl) (a:Act) (w:World):Prop where
 sched:F9 nc L ops R ((qp l).map λip=>(ip.1,ip.2,ops[ip.1]?)) done=true
 cover:∀j,j<ops.size->j ∉ done->j∈X9 l\/j∈R
 Pv:∀j∈R,j ∉ done/\j ∉ X9 l/\VV ops j=false
 marks:Marks ops ZL (early l++done)
 late:∀i p b,(i,p,some b)∈l->VV ops i=true
 lp:∀i p q,(i,p,q)∈l->VV ops i=true->p=false
 z:∀b,Z b↔Z0 b/\b ∉ blocks l
 z0:∀i p b,(i,p,some b)∈l->Z0 b
 gG:(blocks l).Nodup
 Um:∀i p q,(i,p,q)∈l->VV ops i=true->∀o d,ops[i]? = some o->o.dst=some d->get s.fr d=.undef
 rel:Rel Z base nt s pl a w
 since:Vp Z base w0 s.h pl w
 MV:∀i p b,(i,p,some b)∈l->gD P ops nt w0 pl a w i b
def gH{L}{ops:Array Oper}{R}:∀{l:List En} {done:List Nat},F9 nc L ops R ((qp l).map λip=>(ip.1,ip.2,ops[ip.1]?)) done=true->∀j,j∈X9 l->j ∉ done
 | [],_,_,j,hj=>by simp[X9]at hj
 | (i,p,q)::r,done,h,j,hj=>by
  simp only[qp,J7]at h;cases ho:ops[i]? with
  | none=>rw[ho]at h;cases h
  | some o=>
   rw[ho]at h;simp only[F9,Z9,jL]at h;simp only[X9,J7,QM]at hj;rcases hj with rfl|hj
   ·exact λhm=>by rw[ya.2 hm]at h;exact absurd h.1.1.1 (by simp)
   ·exact λhm=>gH (l:=r) h.2 j hj (QM.2 (.inr hm))
def Marks.same{ops}{ZL}{d d'}(M:Marks ops ZL d)(h:∀j,j∈d↔j∈d'):Marks ops ZL d' where
 size:=M.size
 get:=λj hj=>by rw[M.get j hj,h]
 get':=λj=>by rw[M.get',h]
 lt:=λj hj=>M.lt j ((h j).2 hj)
def gI{ops:Array Oper}{i}{o:Oper}(ho:ops[i]? = some o)(h:VV ops i=true):jo o=true/\o.guard=none/\∀e,e ∉ o.after:=by
 simp only[VV,ho,Z9,Option.isNone_iff_eq_none,List.isEmpty_iff]at h;exact⟨h.1.1,h.1.2,λe he=>by have:e∈o.after.toList:=(by simpa using he);rw [h.2] at this; cases this⟩
def sj{ops:Array Oper}{ZL}{done ea}(M:Marks ops ZL (ea++done))(Gb:∀j∈ea,VV ops j=true){i}:∀{n:Nat} {j:Nat} {oj:Oper} {l:List Edge},ops[j]? = some oj->(∀e∈l,e∈oj.after)->Ps ops done i n l=true->CU ops ZL i j
 | 0,_,_,_,_,_,h=>by cases h
 | n+1,_,_,[],_,_,h=>by cases h
 | n+1,j,oj,e::r,hj,hl,h=>by
  simp only[Ps,Cr,Z9,Wp,jL]at h;rcases h with ⟨hb,h1|⟨h1,h2⟩⟩|h
  ·exact .Uj j oj e hj (hl e (by simp)) hb h1
  ·split at h2
   ·rename_i o ho;have Qc:=(WN.1 ho).1;refine .step j oj e hj (hl e (by simp)) hb ((M.get e.on Qc).2 λhm=>?_) (sj M Gb ho (λe he=>by simpa using he) h2);rcases Q9.1 hm with h3|h3
    ·have h4:=(gI ho (Gb _ h3)).2.2;have:o.after.toList=[]:=pL.2 λe he=>h4 e (by simpa using he);rw[this]at h2;cases n<;>simp[Ps]at h2
    ·rw[ya.2 h3]at h1;cases h1
   ·cases h2
  ·exact sj M Gb hj (λe he=>hl e (by simp[he])) h
def Qfr{L}{ops:Array Oper}{done ea}{i}{oi:Oper}{ZL}(M:Marks ops ZL (ea++done))(Gb:∀j∈ea,VV ops j=true):∀{r:List (Nat × Bool × Option Oper)},(∀x∈r,x.2.2=ops[x.1]?)->Uk nc L ops done i oi r=true->∀x∈r,∀oj,ops[x.1]? = some oj->CU ops ZL i x.1\/((((calm oj=true/\Vi x.1 nc=false)\/still L oi=true)\/(EC oi=true/\ED oj=true))/\oi.apart ops oj=true)
 | [],_,_,x,hx,_,_=>by cases hx
 | (j,p,none)::r,_,h,_,_,_,_=>by cases h
 | (j,p,some o)::r,hr,h,x,hx,oj,K8=>by
  simp only[Uk,Z9,Cr]at h;rcases QM.1 hx with h1|h1
  ·subst h1;have e:some o=ops[j]? := hr (j,p,some o) (by simp);have K8:ops[j]? = some oj:=K8;rw[K8]at e;cases e;rcases h.1 with (h2|h2)|h2
   ·obtain⟨e,he,hb,Am⟩:=Qfj h2;exact .inl (.Uj j _ e K8 (by simpa using he) hb Am)
   ·simp only[jL]at h2;exact .inr h2
   ·exact .inl (sj M Gb K8 (λe he=>by simpa using he) h2)
  ·exact Qfr M Gb (λy hy=>hr y (by simp[hy])) h.2 x h1 oj K8
def Un(ops:Array Oper):Prop:=∀(i j:Nat) (oi oj:Oper) (d:Nat),i≠j->VV ops i=true->ops[i]? = some oi->ops[j]? = some oj->oi.dst=some d->oj.dst≠some d
def Al.head{L}{ops}{R}{Z0 Z}{i}{p}{q}{r}{done}{ZL}{s}{pl}{a}{w}(I:Al nc P L ops R base nt w0 Z0 Z ((i,p,q)::r) done ZL s pl a w):
  ∃o,ops[i]? = some o/\i ∉ done/\(∀e∈o.after,Region.binds .any e=true->e.on∈done) /\
   (p=true->VV ops i=false/\Uk nc L ops done i o ((qp r).map (λip=>(ip.1,ip.2,ops[ip.1]?))++MT ops R)=true)/\(p=false->Ul ops done i ((qp r).map (λip=>(ip.1,ip.2,ops[ip.1]?))++MT ops R)=true) /\
   F9 nc L ops R ((qp r).map λip=>(ip.1,ip.2,ops[ip.1]?)) (i::done)=true:=by
 have h:=I.sched;simp only[qp,J7]at h;cases ho:ops[i]? with
 | none=>rw[ho]at h;cases h
 | some o=>
  rw[ho]at h;simp only[F9,Z9,jL]at h;refine⟨o,rfl,λhm=>by rw[ya.2 hm]at h;exact absurd h.1.1.1 (by simp),λe he hb=>gC h.1.1.2 e (by simpa using he) hb,λhp=>?_,λhp=>?_,h.2⟩
  ·subst hp;have:=h.1.2;simp only[Z9,jL]at this;exact this
  ·subst hp;exact h.1.2
def ss{i}{p}{q}{l}(h:(i,p,q)∈l):i∈X9 l:=Jk.2 ⟨_,h,rfl⟩
def Al.next{L}{ops}{R}(hD:Un ops){Z0 Z}{i}{p}{r}{done}{ZL}{s s'}{pl Qm}{a}{w w'}(I:Al nc P L ops R base nt w0 Z0 Z ((i,p,none)::r) done ZL s pl a w)
  {o:Oper} (ho:ops[i]? = some o) (v:Value) (T:Tr s.h pl w s'.h Qm w') (hr:Rel Z base nt s' Qm (a.put o.dst v) w') (hs:Vp Z base w0 s'.h Qm w') (hu:∀d,o.dst≠some d->get s.fr d=.undef->get s'.fr d=.undef) :
  Al nc P L ops R base nt w0 Z0 Z r (i::done) (ZL.setIfInBounds i true) s' Qm (a.put o.dst v) w':=by
 obtain⟨o',ZT,h1,h2,h3,h4,h5⟩:=I.head;rw[ho]at ZT;cases ZT;have Qc:=(WN.1 ho).1;have Qz:∀j p q,(j,p,q)∈r->j≠i:=λj p q hj e=>gH h5 j (ss hj) (by rw[e];simp);have gJ:∀j p q,(j,p,q)∈r->VV ops j=true->∀oj d,ops[j]? = some oj->oj.dst=some d->o.dst≠some d:=λj p q hj hl oj d K8 hd=>hD j i oj o d (Qz j p q hj) hl K8 ho hd;refine⟨h5,λj hj hd=>?_,λj hj=>?_,(I.marks.set Qc).same λj=>?_,λj p b hj=>I.late j p b (KI _ hj),λj p q hj=>I.lp j p q (KI _ hj),I.z,λj p b hj=>I.z0 j p b (KI _ hj),I.gG,λj p q hj hl oj d K8 hd=>?_,hr,hs,λj p b hj=>?_⟩
 ·simp only[QM,zw]at hd;have:=I.cover j hj hd.2;simp only[X9,J7,QM]at this;rcases this with (h|h)|h
  ·exact absurd h hd.1
  ·exact .inl h
  ·exact .inr h
 ·obtain⟨k1,k2,k3⟩:=I.Pv j hj;simp only[X9,J7,QM,zw]at k2;exact⟨λh=>by
   rcases QM.1 h with h|h
   ·exact k2.1 h
   ·exact k1 h,k2.2,k3⟩
 ·simp only[early,QM,Q9];constructor
  ·rintro (h|h|h)
   ·exact .inr (.inl h)
   ·exact .inl h
   ·exact .inr (.inr h)
  ·rintro (h|h|h)
   ·exact .inr (.inl h)
   ·exact .inl h
   ·exact .inr (.inr h)
 ·exact hu d (gJ j p q hj hl oj d K8 hd) (I.Um j p q (KI _ hj) hl oj d K8 hd)
 ·exact(I.MV j p b (KI _ hj)).step T v λoj d K8 hd=>gJ j p _ hj (I.late j p b (KI _ hj)) oj d K8 hd
def Tr.snoc{h h'}{pl Qm}{w w':World}(T:Tr h pl w h' Qm w'){b q}(hb:w.heap.size<=b)(ob):Tr h pl w (h'++[ob]) (Qm++[some (b,q)]) w' where
 KE:=λc hc Qc=>⟨Mt (T.KE c hc Qc).1 λq e=>by simp at e;omega,(T.KE c hc Qc).2⟩
 obj:=λl o p ho hp=>by
  obtain⟨o',p',h1,h2,h3⟩:=T.obj l o p ho hp;exact⟨o',p',xX h1,xX h2,h3⟩
 shape:=λl o o' b q ho ZT hg hp c el hc=>by
  obtain⟨o1,p1,h1,h2,h3⟩:=T.obj l o _ ho hp;rw[xX h1]at ZT;cases ZT;exact T.shape l o _ b q ho h1 hg hp c el hc
def Al.QaV{L}{ops}{R}(hD:Un ops)(Zd:base<=w0.w.heap.size){Z0 Z}{i b}{p}{r}{done}{ZL}{s}{pl}{a}{w}(I:Al nc P L ops R base nt w0 Z0 Z ((i,p,some b)::r) done ZL s pl a w)
  {o:Oper} (ho:ops[i]? = some o) {ob:Ob} {mk:Nat->D} (hL:Ij P o ob mk) (ht:ZQ nt o.dst=true) :
  ∃Z',Al nc P L ops R base nt w0 Z0 Z' r (i::done) ZL ⟨ZC s.fr o.dst (mk s.h.length),s.h++[ob]⟩ (pl++[some (b,0)]) a w:=by
 obtain⟨o',ZT,h1,h2,h3,h4,h5⟩:=I.head;rw[ho]at ZT;cases ZT;have Qz:∀j p q,(j,p,q)∈r->j≠i:=λj p q hj e=>gH h5 j (ss hj) (by rw[e];simp);have Pw:=I.late i p b (Vn ..);have gJ:∀j p q,(j,p,q)∈r->VV ops j=true->∀oj d,ops[j]? = some oj->oj.dst=some d->o.dst≠some d:=λj p q hj hl oj d K8 hd=>hD j i oj o d (Qz j p q hj) hl K8 ho hd;obtain⟨o1,d,w1,ρ,v,obj,g1,g2,g3,g4,g5,g6⟩:=(I.MV i p b (Vn ..)).run;rw[ho]at g1;cases g1;have Px:=(I.MV i p b (Vn ..)).XN;have Py:=(I.MV i p b (Vn ..)).low;obtain⟨Qfs,val,k1,k2,k3⟩:=hL;have ke:=k1 ρ w1;rw[g3]at ke;simp only[Result.ok.injEq,Next.value.injEq]at ke;obtain⟨rfl,ke2⟩:=ke;have EF:obj=Qfs:=by
  have e1:=heap_alloc_new w1 obj;have e2:=heap_alloc_new w1 Qfs;rw[ke2,e2]at e1;exact(FP e1).symm
 subst EF;have hdn:d<nt:=by rw[g2]at ht;exact kI ht
 have hz:∀c,Z c↔Z0 c/\c≠b/\c ∉ blocks r:=λc=>by rw[I.z c];simp only[blocks,QM,zw]
 have Yv:b ∉ blocks r:=by have:=I.gG;simp only[blocks]at this;exact(Jf.1 this).1
 have QqW:Z0 b:=I.z0 i p b (Vn ..);have qR:∀c,free Z pl c->free (λc=>Z0 c/\c ∉ blocks r) (pl++[some (b,0)]) c:=λc hc=>⟨⟨((hz c).1 hc.1).1,((hz c).1 hc.1).2.2⟩,Mt hc.2 λq e=>by simp at e;exact((hz c).1 hc.1).2.1 e.1.symm⟩;have hlen:pl.length=s.h.length:=I.rel.o.len;have hx:=k2 (λc=>Z0 c/\c ∉ blocks r) (s.h++[ob]) (pl++[some (b,0)]) w b g5;have hO:=I.rel.o.QaV qR Px (KZ Zd Py) hx;have hv:=k3 (λc=>Z0 c/\c ∉ blocks r) (s.h++[ob]) (pl++[some (b,0)]) w s.h.length b (by simp) (by rw[<- hlen];simp);have yd:∀{d v},QE Z s.h pl w d v->QE (λc=>Z0 c/\c ∉ blocks r) (s.h++[ob]) (pl++[some (b,0)]) w d v:=λhr=>hr.Pt (λc hc _=>⟨qR c hc,rfl⟩) (λ_ _ _ a b=>⟨xX a,xX b⟩) (λ_ _ _ _=>rfl);refine⟨λc=>Z0 c/\c ∉ blocks r,h5,λj hj hd=>?_,λj hj=>?_,I.marks.same λj=>?_,λj p b hj=>I.late j p b (KI _ hj),λj p q hj=>I.lp j p q (KI _ hj),λc=>Iff.rfl,λj p b hj=>I.z0 j p b (KI _ hj),?_,λj p q hj hl oj d K8 hd=>?_,⟨I.rel.nt,I.rel.defers,λt=>?_,hO⟩,⟨I.since.1,?_,⟨λc hc=>?_,λl c q e h0=>?_⟩⟩,λj p b' hj=>?_⟩
 ·simp only[QM,zw]at hd;have:=I.cover j hj hd.2;simp only[X9,J7,QM]at this;rcases this with (h|h)|h
  ·exact absurd h hd.1
  ·exact .inl h
  ·exact .inr h
 ·obtain⟨k1,k2,k3⟩:=I.Pv j hj;simp only[X9,J7,QM,zw]at k2;exact⟨λh=>by
   rcases QM.1 h with h|h
   ·exact k2.1 h
   ·exact k1 h,k2.2,k3⟩
 ·simp only[early,QM,Q9];constructor
  ·rintro ((h|h)|h)
   ·exact .inr (.inl h)
   ·exact .inl h
   ·exact .inr (.inr h)
  ·rintro (h|h|h)
   ·exact .inl (.inr h)
   ·exact .inl (.inl h)
   ·exact .inr h
 ·have:=I.gG;simp only[blocks]at this;exact(Jf.1 this).2
 ·rw[gF (gJ j p q hj hl oj d K8 hd)];exact I.Um j p q (KI _ hj) hl oj d K8 hd
 ·rw[g2,ZC,FT];by_cases e:t=d
  ·rw[Qf e,e,g6 hdn,<- g4];exact hv
  ·rw[Qd e];exact yd (I.rel.fr t)
 ·exact I.since.2.1.snoc Py ob
 ·exact(I.z c).1 (I.since.2.2.new c hc) |> λh=>⟨h.1,λhm=>h.2 (by simp only[blocks,QM];exact .inr hm)⟩
 ·rcases Xe e with h1|⟨h1,JE⟩
  ·exact(I.z c).1 (I.since.2.2.own l c q h1 h0) |> λh=>⟨h.1,λhm=>h.2 (by simp only[blocks,QM];exact .inr hm)⟩
  ·simp at JE;obtain⟨rfl,rfl⟩:=JE;exact⟨QqW,Yv⟩
 ·have P':=I.MV j p b' (KI _ hj);exact⟨P'.run,Mt P'.XN λq e=>by
   simp at e;exact Yv (by rw[e.1];exact Ga.2 ⟨j,p,hj⟩),P'.low⟩
def MW{j b:Nat}{p:Bool}{l1 l2:List En}{x:En}(h:x∈l1++(j,p,some b)::l2):x∈l1++(j,p,none)::l2\/x=(j,p,some b):=by
 rcases Q9.1 h with h|h
 ·exact .inl (Q9.2 (.inl h))
 ·rcases QM.1 h with h|h
  ·exact .inr h
  ·exact .inl (Q9.2 (.inr (KI _ h)))
def Qft{j b:Nat}{p:Bool}{l1 l2:List En}{i c:Nat}{q:Bool}(h:(i,q,some c)∈l1++(j,p,none)::l2):(i,q,some c)∈l1++(j,p,some b)::l2:=by
 rcases Q9.1 h with h|h
 ·exact Q9.2 (.inl h)
 ·rcases QM.1 h with h|h
  ·cases h
  ·exact Q9.2 (.inr (KI _ h))
def Al.exec{L:Jt}{ops:Array Oper}{R:List Nat}(hD:Un ops)(Zd:base<=w0.w.heap.size){Z0 Z:Nat->Prop}{j:Nat}{p:Bool}{l1 l2:List En}{done:List Nat}{ZL:Array Bool}{s:St}{pl:List Pl}{a:Act}{w:World}(I:Al nc P L ops R base nt w0 Z0 Z (l1++(j,p,none)::l2) done ZL s pl a w)
  {o:Oper} (ho:ops[j]? = some o) (hl:VV ops j=true) {d:Nat} (hd:o.dst=some d) {v:Value} {obj:Obj} (Zl:(execOp a.eval o).run P w=.ok (.value v) (w.alloc obj)) (huq:∀i p' q,(i,p',q)∈l1++(j,p,none)::l2->q≠none->i≠j) :
  ∃Z',Al nc P L ops R base nt w0 Z0 Z' (l1++(j,p,some w.heap.size)::l2) done (ZL.setIfInBounds j true) s pl (a.put o.dst v) (w.alloc obj):=by
 have Qc:=(WN.1 ho).1;have hm:(j,p,none)∈l1++(j,p,none)::l2:=Q9.2 (.inr (Vn ..));have e:∀k,k<w.heap.size->(w.alloc obj).heap[k]? = w.heap[k]? := λk hk=>xY w obj k hk;have Kb:(w.alloc obj).heap[w.heap.size]? = some obj:=heap_alloc_new w obj;have JP:w.heap.size<(w.alloc obj).heap.size:=vI Kb;have jm:base<=w.heap.size:=KZ Zd I.since.1.size;have xg:∀c,c∈blocks (l1++(j,p,none)::l2)->c<w.heap.size:=λc hc=>by
  obtain⟨i,q,hq⟩:=Ga.1 hc;obtain⟨_,_,_,_,_,_,_,_,_,_,h5,_⟩:=(I.MV i q c hq).run;exact vI h5
 have Yv:w.heap.size ∉ blocks (l1++(j,p,none)::l2):=λh=>by have:=xg _ h;omega
 have Uo:Z0 w.heap.size:=((I.z _).1 (I.since.2.2.new _ (QB _))).1;have K7:∀c,c∈blocks (l1++(j,p,some w.heap.size)::l2)↔c∈blocks (l1++(j,p,none)::l2)\/c=w.heap.size:=λc=>by
  rw[Ga,Ga];constructor
  ·rintro⟨i,q,h⟩;rcases MW h with h|h
   ·exact .inl ⟨i,q,h⟩
   ·cases h;exact .inr rfl
  ·rintro (⟨i,q,h⟩|rfl)
   ·exact⟨i,q,Qft h⟩
   ·exact⟨j,p,Q9.2 (.inr (Vn ..))⟩
 have hZ:∀c,(Z0 c/\c ∉ blocks (l1++(j,p,some w.heap.size)::l2))↔Z c/\c≠w.heap.size:=λc=>by
  rw[I.z c,K7 c,zw,and_assoc]
 have qR:∀c,free Z pl c->c<w.heap.size->free (λc=>Z0 c/\c ∉ blocks (l1++(j,p,some w.heap.size)::l2)) pl c/\(w.alloc obj).heap[c]? = w.heap[c]? := λc hc Qc=>⟨⟨(hZ c).2 ⟨hc.1,by omega⟩,hc.2⟩,e c Qc⟩;have yd:∀{d v},QE Z s.h pl w d v->QE (λc=>Z0 c/\c ∉ blocks (l1++(j,p,some w.heap.size)::l2)) s.h pl (w.alloc obj) d v:=λhr=>hr.Pt qR (λ_ _ _ a b=>⟨a,b⟩) (λl b q hp=>e b (I.rel.o.lt hp).1);have T:Tr s.h pl w s.h pl (w.alloc obj):=Tr.ext I.rel.o e;refine⟨λc=>Z0 c/\c ∉ blocks (l1++(j,p,some w.heap.size)::l2),?_,?_,?_,(I.marks.set Qc).same λi=>?_,λi q b h=>?_,λi q u h hl=>?_,λc=>Iff.rfl,λi q b h=>?_,si _ Yv I.gG,λi q u h Pw oi di gK gL=>?_,⟨by rw[hd];simp[Act.put,I.rel.nt],by rw[hd];exact I.rel.defers,λt=>?_,I.rel.o.Pt qR e⟩,⟨I.since.1.trans (FX jm obj),I.since.2.1.trans T,⟨λc hc=>(hZ c).2 ⟨I.since.2.2.new c (by omega),by omega⟩,λl c q e1 h0=>(hZ c).2 ⟨I.since.2.2.own l c q e1 h0,by have:=(I.rel.o.lt e1).1;omega⟩⟩⟩,λi q b h=>?_⟩
 ·have:=I.sched;simpa[qp] using this
 ·have:=I.cover;simpa[X9] using this
 ·have:=I.Pv;simpa[X9] using this
 ·simp only[QM,Q9,MU];constructor
  ·rintro (rfl|⟨q,b,h⟩|h)
   ·exact .inl ⟨p,_,.inr (.inl rfl)⟩
   ·exact .inl ⟨q,b,by have:=Qft (b:=w.heap.size) (Q9.2 (h.imp id QM.2));simpa using this⟩
   ·exact .inr h
  ·rintro (⟨q,b,h⟩|h)
   ·rcases MW (Q9.2 (h.imp id QM.2)) with h|h
    ·exact .inr (.inl ⟨q,b,by simpa using h⟩)
    ·cases h;exact .inl rfl
   ·exact .inr (.inr h)
 ·rcases MW h with h|h
  ·exact I.late i q b h
  ·cases h;exact hl
 ·rcases MW h with h|h
  ·exact I.lp i q u h hl
  ·cases h;exact I.lp j p none hm hl
 ·rcases MW h with h|h
  ·exact I.z0 i q b h
  ·cases h;exact Uo
 ·rcases MW h with h|h
  ·exact I.Um i q u h Pw oi di gK gL
  ·cases h;exact I.Um j p none hm Pw oi di gK gL
 ·by_cases ht:t=d
  ·have:=I.Um j p none hm hl o d ho hd;rw[ht,this];exact .cl _ _ (.undef _)
  ·rw[Qfq (by rw[hd];exact λh=>ht (FP h).symm)];exact yd (I.rel.fr t)
 ·rcases MW h with h|h
  ·refine(I.MV i q b h).step T v λoi di gK gL=>?_;exact hD i j oi o di (huq i q (some b) h (by simp)) (I.late i q b h) gK ho gL
  ·cases h;refine⟨⟨o,d,w,a.eval,v,obj,ho,hd,Zl,rfl,Kb,λhn=>?_⟩,λl q e1=>?_,I.since.1.size⟩
   ·have:d<a.tmps.size:=by rw[I.rel.nt];exact hn
    simp[Act.put,hd,y6,this]
   ·have:=(I.rel.o.lt e1).1;omega
def Gc(nc:List Nat)(P:Program)(base nt:Nat)(w0:Start)(ops:Array Oper)(K:St->Prop):Nat->List Nat->List Nat->St->Prop
 | 0,_,_,s=>K s
 | n+1,R,done,s=>∀i∈R,∀o,ops[i]? = some o->vS done o.after.toList=false->AX P base nt w0 (Gc nc P base nt w0 ops K n (R.erase i) (i::done)) [(false,qT (Vi i nc) o,guardOf ops o)] s
def Bw(ops:Array Oper):List Nat->List Nat->Bool
 | [],_=>true
 | i::r,done=>(match ops[i]? with
  | some o=>!vS done o.after.toList
  | none=>false)&&Bw ops r (i::done)
def su{done Pz}(h:∀j∈done,j∈Pz):∀{l:List Edge},vS done l=false->vS Pz l=false
 | [],_=>rfl
 | e::r,hh=>by
  simp only[vS,Hy,Me,Bool.not_eq_false']at hh ⊢;exact⟨hh.1.imp id λk=>ya.2 (h _ (ya.1 k)),su h hh.2⟩
def Qfu{ops}:∀{R done Pz:List Nat},(∀j∈done,j∈Pz)->Bw ops R done=true->Bw ops R Pz=true
 | [],_,_,_,_=>rfl
 | i::r,done,Pz,h,hh=>by
  simp only[Bw,Z9]at hh ⊢;refine⟨?_,Qfu (λj hj=>by
   rcases QM.1 hj with rfl|hj
   ·exact Vn ..
   ·exact KI _ (h j hj)) hh.2⟩
  have h1:=hh.1;cases ho:ops[i]? with
  | none=>rw[ho]at h1;cases h1
  | some o=>
   rw[ho]at h1;simp only[jL]at h1 ⊢;exact su h h1
def Qfv{ops}{j}:∀{R done:List Nat},Bw ops R done=true->Bw ops (R.erase j) (j::done)=true
 | [],_,_=>rfl
 | i::r,done,h=>by
  simp only[Bw,Z9]at h;by_cases Vy:i=j
  ·subst Vy;rw[List.erase_cons_head];exact h.2
  ·rw[List.erase_cons_tail (by simpa using Vy)];simp only[Bw,Z9];refine⟨?_,Qfu (λk hk=>?_) (Qfv (j:=j) h.2)⟩
   ·have h1:=h.1;cases ho:ops[i]? with
    | none=>rw[ho]at h1;cases h1
    | some o=>
     rw[ho]at h1;simp only[jL]at h1 ⊢;exact su (λk hk=>KI _ hk) h1
   ·simp only[QM]at hk ⊢;rcases hk with h1|h1|h1
    ·exact .inr (.inl h1)
    ·exact .inl h1
    ·exact .inr (.inr h1)
def QqY{ops:Array Oper}(Zd:base<=w0.w.heap.size){F}{Z}{i}{o}(ho:ops[i]? = some o){s:St}{pl}{a}{w}(r:Rel Z base nt s pl a w)(b:Vp Z base w0 s.h pl w)
  (h:AX P base nt w0 F [(false,qT (Vi i nc) o,guardOf ops o)] s):wpOp P ops (λ_ _ _=>False) i (λa' w'=>yc nc ops i w w'/\∃s' Qm,F s'/\Rel Z base nt s' Qm a' w'/\Vp Z base w0 s'.h Qm w') a w:=by
 have skip:∀(s1:St),s1.h=s.h->Rel Z base nt s1 pl a w->XB (guardOf ops o) a.tmps=false->ZQ nt (qT (Vi i nc) o).dst=true->F ⟨ZC s1.fr (qT (Vi i nc) o).dst (.raw Go.undef),s1.h⟩->_:=λs1 hh r1 hw ht hk=>by
  have hy:YieldsIf P ops (λ_:World=>True) o Go.undef a:=.inr ⟨by rw[Ph];exact hw,rfl⟩;have Jp:Rel Z base nt ⟨ZC s1.fr o.dst (.raw Go.undef),s1.h⟩ pl (a.put o.dst Go.undef) w:=r1.skip ht;exact hy.wpOp (P:=P) (Q:=λ_ _ _=>False) (K:=λa' w'=>yc nc ops i w w'/\∃s' Qm,F s'/\Rel Z base nt s' Qm a' w'/\Vp Z base w0 s'.h Qm w') ho trivial ⟨by rw[MS ho];exact .ext (Ext.refl _),_,pl,hk,Jp,by rw[show (⟨ZC s1.fr o.dst (.raw Go.undef),s1.h⟩:St).h=s.h from hh];exact b⟩
 have go:∀(s1:St),s1.h=s.h->Rel Z base nt s1 pl a w->XB (guardOf ops o) a.tmps=true->XR P base nt w0 false (qT (Vi i nc) o) F s1->wpOp P ops (λ_ _ _=>False) i (λa' w'=>yc nc ops i w w'/\∃s' Qm,F s'/\Rel Z base nt s' Qm a' w'/\Vp Z base w0 s'.h Qm w') a w:=λs1 hh r1 hw hk=>by
  unfold wpOp;simp only[ho,Ph,hw,K6];refine .inl ?_;have:=hk.ae Zd Z trivial pl a w r1 (by rw[hh];exact b);rw[Qfn]at this;refine Oper.wp_mono (λa' w' hq=>?_) this;obtain⟨he,d,h',Qm,v,hF,r',b',T,rfl⟩:=hq;exact⟨by rw[MS ho];exact he,_,Qm,hF,r',b'⟩
 simp only[AX]at h;split at h
 ·rename_i hg;exact go s rfl r (by rw[hg];rfl) h
 ·rename_i x hg;exact skip s rfl r (by rw[hg];rfl) h.1 h.2
 ·rename_i t x hg;split at h
  ·rename_i y hy;have hr:=r.fr t;rw[hy]at hr;have hv:=JG hr;have hb:=rW hv;by_cases wX:y=x
   ·refine go ⟨put s.fr t (.raw (.bool x)),s.h⟩ rfl (r.tell (t:=t) (d:=.raw (.bool x)) (by rw[hv,wX];exact .cl _ _ (.raw _))) ?_ (h.1 wX);rw[hg];simp[XB,hb,wX]
   ·have Ic:y=(!x):=by cases x<;>cases y<;>simp_all
    have:=h.2 Ic;refine skip ⟨put s.fr t (.raw (.bool !x)),s.h⟩ rfl (r.tell (t:=t) (d:=.raw (.bool (!x))) (by rw[hv,Ic];exact .cl _ _ (.raw _))) ?_ this.1 this.2;rw[hg];simp[XB,hb,wX]
  ·rename_i vs hy;have hr:=r.fr t;rw[hy]at hr;refine skip s rfl r ?_ h.1 h.2;rw[hg];simp[XB,rX (JG hr)]
  ·exact h.elim
def sv{ops:Array Oper}{K}(Zd:base<=w0.w.heap.size){Z}:∀(n:Nat) (R done:List Nat) (ZL:Array Bool) (s:St) (pl:List Pl) (a:Act) (w:World),R.length=n->Marks ops ZL done->(∀j,j<ops.size->j ∉ done->j∈R)->(∀j∈R,j ∉ done)->R.Nodup->Bw ops R done=true ->
  Rel Z base nt s pl a w->Vp Z base w0 s.h pl w->Gc nc P base nt w0 ops K n R done s->Bv P ops (λa w=>∃s pl,K s/\Rel Z base nt s pl a w/\Vp Z base w0 s.h pl w) (yc nc ops) n ZL a w
 | 0,R,done,ZL,s,pl,a,w,hl,M,hc,hn,hd,ht,r,b,h=>by
  have:R=[]:=Mj.1 hl;subst this;refine⟨pL.2 λj hj=>?_,s,pl,h,r,b⟩;obtain⟨h1,o,ho,_⟩:=mem_ready.1 hj;have Qc:=(WN.1 ho).1;have:=hc j Qc ((M.get j Qc).1 h1);cases this
 | n+1,R,done,ZL,s,pl,a,w,hl,M,hc,hn,hd,ht,r,b,h=>by
  have ready:∀j o,ops[j]? = some o->j ∉ done->vS done o.after.toList=false->j∈Region.ready .any ops ZL:=λj o ho hj hh=>by
   have Qc:=(WN.1 ho).1;exact mem_ready.2 ⟨(M.get j Qc).2 hj,o,ho,λe he hb=>(M.get' e.on).2 ⟨gC hh e (by simpa using he) hb,M.lt _ (gC hh e (by simpa using he) hb)⟩⟩
  refine⟨λe=>?_,λj hj=>?_⟩
  ·cases R with
   | nil=>cases hl
   | cons i rr=>
    simp only[Bw,Z9]at ht;have h1:=ht.1;split at h1
    ·rename_i o ho;have:=ready i o ho (hn i (Vn ..)) (by simpa using h1);rw[e]at this;cases this
    ·cases h1
  ·obtain⟨h1,o,ho,KS⟩:=mem_ready.1 hj;have Qc:=(WN.1 ho).1;have hjd:=(M.get j Qc).1 h1;have gM:=hc j Qc hjd;have hh:vS done o.after.toList=false:=by
    cases hb:vS done o.after.toList
    ·rfl
    ·obtain⟨e,he,hbi,Am⟩:=Qfk hb;exact absurd ((M.get' e.on).1 (KS e (by simpa using he) hbi)).1 Am
   refine wpOp_mono (λa' w' h3=>?_) (QqY Zd ho r b (h j gM o ho hh));obtain⟨h4,s',Qm,hF,r',b'⟩:=h3;refine⟨h4,sv Zd n (R.erase j) (j::done) (ZL.setIfInBounds j true) s' Qm a' w' (by rw[List.length_erase_of_mem gM,hl];rfl) (M.set Qc) (λk hk Jc=>?_) (λk hk Jc=>?_) (hd.erase _) (Qfv ht) r' b' hF⟩
   ·simp only[QM,zw]at Jc;exact(List.mem_erase_of_ne Jc.1).2 (hc k hk Jc.2)
   ·have hkR:=List.mem_of_mem_erase hk;rcases QM.1 Jc with rfl|h5
    ·exact(hd.not_mem_erase) hk
    ·exact hn k hkR h5
def Qq2{L}(Qq3:Jq P L){ops:Array Oper}{R D0:List Nat}{K}(Pp:Region.noSelect ops=true)(Zd:base<=w0.w.heap.size)(hD:Un ops)(hL:∀j o,ops[j]? = some o->VV ops j=true->(∃ob mk,Ij P o ob mk)/\∃d,o.dst=some d){Z0}(hRn:R.Nodup)(hRt:Bw ops R D0=true):
  ∀(m:Nat) (l:List En) (done:List Nat) (ZL:Array Bool) (s:St) (pl:List Pl) (a:Act) (w:World) (Z:Nat->Prop),l.length+qq l<=m->Al nc P L ops R base nt w0 Z0 Z l done ZL s pl a w->(∀j,j∈D0↔j∈X9 l\/j∈done)->AX P base nt w0 (Gc nc P base nt w0 ops K R.length R D0) (VO nc ops (qp l)) s ->
   Bv P ops (λa w=>∃s pl,K s/\Rel Z0 base nt s pl a w/\Vp Z0 base w0 s.h pl w) (yc nc ops) (R.length+qq l) ZL a w:=by
 intro m;induction m with
 | zero=>
  intro l done ZL s pl a w Z hm I Up h;cases l with
  | cons x r=>simp at hm
  | nil=>
   have hZ:Z=Z0:=funext λb=>propext (by rw[I.z b];simp[blocks]);subst hZ;have Gd:∀j,j∈D0↔j∈done:=λj=>by rw[Up j];simp[X9]
   refine sv Zd R.length R D0 ZL s pl a w rfl (I.marks.same λj=>by rw[Gd j];simp[early]) (λj hj hd=>?_) (λj hj=>by rw[Gd j];exact(I.Pv j hj).1) hRn hRt I.rel I.since h;have:=I.cover j hj (λh=>hd ((Gd j).2 h));simpa[X9] using this
 | succ m ih=>
  intro l done ZL s pl a w Z hm I Up h;cases l with
  | nil=>
   have hZ:Z=Z0:=funext λb=>propext (by rw[I.z b];simp[blocks]);subst hZ;have Gd:∀j,j∈D0↔j∈done:=λj=>by rw[Up j];simp[X9]
   refine sv Zd R.length R D0 ZL s pl a w rfl (I.marks.same λj=>by rw[Gd j];simp[early]) (λj hj hd=>?_) (λj hj=>by rw[Gd j];exact(I.Pv j hj).1) hRn hRt I.rel I.since h;have:=I.cover j hj (λh=>hd ((Gd j).2 h));simpa[X9] using this
  | cons x r=>
   obtain⟨i,p,q⟩:=x;obtain⟨o,ho,ZY,Qfy,Qq4,Qq5,Bn⟩:=I.head;have Qc:=(WN.1 ho).1;have yf:VO nc ops (qp ((i,p,q)::r))=(p,qT (Vi i nc) o,guardOf ops o)::VO nc ops (qp r):=by simp[VO,qp,ho]
   rw[yf]at h;have Gb:∀j∈early ((i,p,q)::r),VV ops j=true:=λj hj=>by obtain⟨p',b,hb⟩:=MU.1 hj;exact I.late j p' b hb
   have Qz:∀j p q,(j,p,q)∈r->j≠i:=λj p q hj e=>gH Bn j (ss hj) (by rw[e];simp);have PA:∀j,j∈D0↔j∈X9 r\/j∈i::done:=λj=>by
    rw[Up j];simp only[X9,J7,QM];constructor
    ·rintro ((h|h)|h)
     ·exact .inr (.inl h)
     ·exact .inl h
     ·exact .inr (.inr h)
    ·rintro (h|h|h)
     ·exact .inl (.inr h)
     ·exact .inl (.inl h)
     ·exact .inr h
   cases q with
   | some b=>
    have Pw:=I.late i p b (Vn ..);obtain⟨g1,g2,_⟩:=gI ho Pw;have hp:=I.lp i p _ (Vn ..) Pw;subst hp;have hg:guardOf ops o=none:=by simp[guardOf,g2]
    rw[hg]at h;simp only[AX,XR]at h;rw[show jo (qT (Vi i nc) o)=true from g1]at h;obtain⟨ob,mk,h1,h2,h3⟩:=h;obtain⟨Z',I'⟩:=I.QaV hD Zd ho (show Ij P o ob mk from h1) h2;have:=ih r (i::done) ZL _ _ a w Z' (by simp only[Vh,qq]at hm;omega) I' PA h3;exact this
   | none=>
    have PB:i ∉ early ((i,p,none)::r)++done:=λhm=>by
     rcases Q9.1 hm with h1|h1
     ·obtain⟨p',b,hb⟩:=MU.1 h1;rcases QM.1 hb with h2|h2
      ·cases h2
      ·exact Qz _ _ _ h2 rfl
     ·exact ZY h1
    have sw:i∈Region.ready .any ops ZL:=mem_ready.2 ⟨(I.marks.get i Qc).2 PB,o,ho,λe he hb=>(I.marks.get' e.on).2 ⟨Q9.2 (.inr (Qfy e he hb)),I.marks.lt _ (Q9.2 (.inr (Qfy e he hb)))⟩⟩;have O7:r.length+qq r<=m:=by simp only[Vh,qq]at hm;omega
    have first:p=true->∀(s1:St) (v:Value),s1.h=s.h->YieldsIf P ops (λw'=>(still L o=true\/Ext w w')\/(EC o=true/\kC w w')) o v a ->
      Rel Z base nt s1 pl (a.put o.dst v) w->(∀d,o.dst≠some d->get s.fr d=.undef->get s1.fr d=.undef)->AX P base nt w0 (Gc nc P base nt w0 ops K R.length R D0) (VO nc ops (qp r)) s1->Bv P ops (λa w=>∃s pl,K s/\Rel Z0 base nt s pl a w/\Vp Z0 base w0 s.h pl w) (yc nc ops) (R.length+qq r+1) ZL a w:=by
     intro hp s1 v hh hy hr hu hk;have I':=I.next hD ho v (s':=s1) (by rw[hh];exact Tr.refl _ _ _) hr (by rw[hh];exact I.since) hu;have gN:=ih r (i::done) (ZL.setIfInBounds i true) s1 pl (a.put o.dst v) w Z O7 I' PA hk;refine QqQ (λw=>by rw[MS ho];exact .ext (Ext.refl _)) ho (Region.noSelect_spec Pp) _ ZL a w (.inl (.inr (Ext.refl _))) (λj oj hj xl hu'=>?_) sw hy gN;have Uq:=(WN.1 hj).1;have Ur:=(I.marks.get j Uq).1 hu';have Us:=I.cover j Uq λhd=>Ur (Q9.2 (.inr hd));simp only[X9,J7,QM]at Us;have Xi:∃y∈(qp r).map (λip=>(ip.1,ip.2,ops[ip.1]?))++MT ops R,y.1=j/\y.2.2=ops[j]? := by
      rcases Us with (h|h)|h
      ·exact absurd h xl
      ·obtain⟨y,jQ,jR⟩:=Jk.1 h;exact⟨(y.1,y.2.1,ops[y.1]?),Q9.2 (.inl (Jk.2 ⟨(y.1,y.2.1),Jk.2 ⟨y,jQ,rfl⟩,rfl⟩)),jR,by rw[jR]⟩
      ·exact⟨(j,false,ops[j]?),Q9.2 (.inr (Jk.2 ⟨j,h,rfl⟩)),rfl,rfl⟩
     obtain⟨y,jQ,jR,sx⟩:=Xi;have:=Qfr I.marks Gb (r:=(qp r).map (λip=>(ip.1,ip.2,ops[ip.1]?))++MT ops R) (λx hx=>by
      rcases Q9.1 hx with hx|hx
      ·obtain⟨z,_,rfl⟩:=Jk.1 hx;rfl
      ·obtain⟨z,_,rfl⟩:=Jk.1 hx;rfl) (Qq4 hp).2 y jQ oj (by rw[jR];exact hj)
     rw[jR]at this;refine this.imp id λh=>⟨λw1 w2 hc hs=>?_,h.2⟩;rw[MS hj]at hc;rcases h.1 with (h1|h1)|h1
     ·have he:=hc.calm (by rw[QqS];simp[h1.1,h1.2]);rcases hs with (hs|hs)|hs
      ·exact .inl (.inl hs)
      ·exact .inl (.inr (hs.trans he))
      ·exact .inr ⟨hs.1,hs.2.trans (.ext he)⟩
     ·exact .inl (.inl h1)
     ·have he:=hc.ins (by simpa[ED,qT] using h1.2);rcases hs with (hs|hs)|hs
      ·exact .inl (.inl hs)
      ·exact .inr ⟨h1.1,(kC.ext hs).trans he⟩
      ·exact .inr ⟨hs.1,hs.2.trans he⟩
    have alone:p=false->wpOp P ops (λ_ _ _=>False) i (λa' w'=>yc nc ops i w w'/\Bv P ops (λa w=>∃s pl,K s/\Rel Z0 base nt s pl a w/\Vp Z0 base w0 s.h pl w) (yc nc ops) (R.length+qq r) (ZL.setIfInBounds i true) a' w') a w ->
      Bv P ops (λa w=>∃s pl,K s/\Rel Z0 base nt s pl a w/\Vp Z0 base w0 s.h pl w) (yc nc ops) (R.length+qq r+1) ZL a w:=by
     intro hp hi;refine⟨λe=>(by rw[e]at sw;cases sw),λj hj=>?_⟩;by_cases xl:j=i
     ·subst xl;exact hi
     ·obtain⟨gy,oj,K8,KS⟩:=mem_ready.1 hj;have Uq:=(WN.1 K8).1;have Ur:=(I.marks.get j Uq).1 gy;have Us:=I.cover j Uq λhd=>Ur (Q9.2 (.inr hd));simp only[X9,J7,QM]at Us;have Qfz:=λx hx=>Qfp (r:=(qp r).map (λip=>(ip.1,ip.2,ops[ip.1]?))++MT ops R) (λx hx=>by
       rcases Q9.1 hx with hx|hx
       ·obtain⟨z,_,rfl⟩:=Jk.1 hx;rfl
       ·obtain⟨z,_,rfl⟩:=Jk.1 hx;rfl) (Qq5 hp) x hx
      have held:Pu ops done i oj.after.toList=true->False:=λh1=>by
       obtain⟨e,he,hb,Am,Bx⟩:=Qfo h1;have h2:=((I.marks.get' e.on).1 (KS e (by simpa using he) hb)).1;rcases Q9.1 h2 with h3|h3
       ·rcases Bx with h4|h4
        ·rw[Gb _ h3]at h4;cases h4
        ·exact PB (Q9.2 (.inl (by rw[<- h4];exact h3)))
       ·exact Am h3
      have gM:j ∉ R:=λh=>by
       rcases Qfz (j,false,ops[j]?) (Q9.2 (.inr (Jk.2 ⟨j,h,rfl⟩))) oj K8 with h1|h1
       ·have h9:VV ops j=true:=h1;rw[(I.Pv j h).2.2]at h9;cases h9
       ·exact held h1
      obtain⟨y,jQ,jR⟩:=Jk.1 ((Us.resolve_right gM).resolve_left xl);obtain⟨j',pj,qj⟩:=y;obtain rfl:j'=j:=jR;have hqj:qj=none:=by
       cases qj with
       | none=>rfl
       | some b=>exact absurd (Q9.2 (.inl (MU.2 ⟨pj,b,KI _ jQ⟩))) Ur
      subst hqj;have sy:VV ops j'=true:=by
       rcases Qfz (j',pj,ops[j']?) (Q9.2 (.inl (Jk.2 ⟨(j',pj),Jk.2 ⟨_,jQ,rfl⟩,rfl⟩))) oj K8 with h1|h1
       ·exact h1
       ·exact(held h1).elim
      obtain⟨g1,g2,_⟩:=gI K8 sy;obtain⟨⟨ob,mk,obj,val,k1,_⟩,d,hd⟩:=hL j' oj K8 sy;obtain⟨r1,r2,hr⟩:=List.append_of_mem jQ;have hl:(i,p,none)::r=((i,p,none)::r1)++(j',pj,none)::r2:=by rw[hr];rfl
      have I0:=I;rw[hl]at I0;obtain⟨Z',I'⟩:=I0.exec hD Zd K8 sy hd (k1 a.eval w) (λi' p' q' hm hq e=>by
       subst e;rw[<- hl]at hm;cases q' with
       | none=>exact hq rfl
       | some b=>exact Ur (Q9.2 (.inl (MU.2 ⟨p',b,hm⟩))))
      have hc:qq r=qq (((i,p,none)::r1)++(j',pj,some w.heap.size)::r2):=by
       have:=sg (j:=j') (p:=pj) (b:=w.heap.size) (l2:=r2) ((i,p,none)::r1);rw[<- hl]at this;simp only[qq]at this;omega
      have sA:qp (((i,p,none)::r1)++(j',pj,some w.heap.size)::r2)=qp ((i,p,none)::r):=by rw[hl];simp[qp]
      have gN:=ih _ done (ZL.setIfInBounds j' true) s pl (a.put oj.dst (val w.heap.size)) (w.alloc obj) Z' (by
       have h1:(((i,p,none)::r1)++(j',pj,some w.heap.size)::r2).length=r.length+1:=by rw[hr];simp
       have h2:r.length+1+(qq r+1)<=m+1:=hm;rw[h1,<- hc];omega) I' (λk=>by rw[Up k];rw[hl];simp[X9]) (by rw[sA,yf];exact h)
      rw[<- hc]at gN;unfold wpOp;simp only[K8];have hw:Region.wanted oj (yielded ops a.tmps)=true:=by simp[Region.wanted,g2]
      rw[Qf hw];refine .inl ?_;unfold Oper.wp;rw[k1 a.eval w];simp only[Oper.upon_value];exact⟨by rw[MS K8];exact .ext λk hk=>xY w obj k hk,gN⟩
    have skip:∀(s1:St),s1.h=s.h->Rel Z base nt s1 pl a w->(∀d,get s.fr d=.undef->get s1.fr d=.undef)->XB (guardOf ops o) a.tmps=false->ZQ nt (qT (Vi i nc) o).dst=true->AX P base nt w0 (Gc nc P base nt w0 ops K R.length R D0) (VO nc ops (qp r)) ⟨ZC s1.fr (qT (Vi i nc) o).dst (.raw Go.undef),s1.h⟩ ->
      Bv P ops (λa w=>∃s pl,K s/\Rel Z0 base nt s pl a w/\Vp Z0 base w0 s.h pl w) (yc nc ops) (R.length+qq r+1) ZL a w:=by
     intro s1 hh r1 hu hw ht hk;have hy:YieldsIf P ops (λw'=>(still L o=true\/Ext w w')\/(EC o=true/\kC w w')) o Go.undef a:=.inr ⟨by rw[Ph];exact hw,rfl⟩;have Jp:Rel Z base nt ⟨ZC s1.fr o.dst (.raw Go.undef),s1.h⟩ pl (a.put o.dst Go.undef) w:=r1.skip ht;have An:∀d,o.dst≠some d->get s.fr d=.undef->get (ZC s1.fr o.dst (.raw Go.undef)) d=.undef:=λd hd h=>by rw[gF hd];exact hu d h
     cases p with
     | true=>exact first rfl ⟨ZC s1.fr o.dst (.raw Go.undef),s1.h⟩ Go.undef hh hy Jp An hk
     | false=>
      refine alone rfl (hy.wpOp ho (.inl (.inr (Ext.refl _))) ⟨by rw[MS ho];exact .ext (Ext.refl _),?_⟩);have I':=I.next hD ho Go.undef (s':=⟨ZC s1.fr o.dst (.raw Go.undef),s1.h⟩) (by rw[show (⟨ZC s1.fr o.dst (.raw Go.undef),s1.h⟩:St).h=s.h from hh];exact Tr.refl _ _ _) Jp (by rw[show (⟨ZC s1.fr o.dst (.raw Go.undef),s1.h⟩:St).h=s.h from hh];exact I.since) An;exact ih r (i::done) _ _ pl _ w Z O7 I' PA hk
    have go:∀(s1:St),s1.h=s.h->Rel Z base nt s1 pl a w->(∀d,get s.fr d=.undef->get s1.fr d=.undef)->XB (guardOf ops o) a.tmps=true->XR P base nt w0 p (qT (Vi i nc) o) (AX P base nt w0 (Gc nc P base nt w0 ops K R.length R D0) (VO nc ops (qp r))) s1 ->
      Bv P ops (λa w=>∃s pl,K s/\Rel Z0 base nt s pl a w/\Vp Z0 base w0 s.h pl w) (yc nc ops) (R.length+qq r+1) ZL a w:=by
     intro s1 hh r1 hu hw hk;cases p with
     | true=>
      obtain⟨d,MB,kJ,ht,hk⟩:=hk;have KS:∃v,QE Z s1.h pl w d v/\(∀w':World,(∀b,b<w.heap.size->w'.heap[b]? = w.heap[b]?)->(execOp a.eval o).run P w'=.ok (.value v) w')/\(EC o=true->∀w':World,kC w w'->(execOp a.eval o).run P w'=.ok (.value v) w'):=by
       cases Ut:EC o
       ·obtain⟨v,hv,Zl⟩:=MB Z pl a w r1;exact⟨v,hv,Zl,λh=>by cases h⟩
       ·obtain⟨v,hv,Zl⟩:=kJ (by simpa[EC,qT] using Ut) Z pl a w r1;exact⟨v,hv,λw' he=>Zl w' (.ext he),λ_=>Zl⟩
      obtain⟨v,hv,Zl,Qq8⟩:=KS;have hy:YieldsIf P ops (λw'=>(still L o=true\/Ext w w')\/(EC o=true/\kC w w')) o v a:=.inl ⟨by rw[Ph];exact hw,λw' he=>he.elim (λhe=>he.elim (λhs=>QqP Qq3 hs (Zl w λ_ _=>rfl) w') (λhe=>Zl w' he)) (λhe=>Qq8 he.1 w' he.2)⟩;have r2:Rel Z base nt ⟨ZC s1.fr o.dst d,s1.h⟩ pl (a.put o.dst v) w:=by
       cases hd:o.dst with
       | none=>exact r1
       | some t=>have ht:ZQ nt o.dst=true:=ht;rw[hd]at ht;exact r1.to (Tr.ext r1.o λ_ _=>rfl) r1.o (kI ht) hv
      exact first rfl ⟨ZC s1.fr o.dst d,s1.h⟩ v hh hy r2 (λd' hd h=>by rw[gF hd];exact hu d' h) hk
     | false=>
      refine alone rfl ?_;unfold wpOp;simp only[ho,Ph,hw,K6];refine .inl ?_;have:=hk.ae Zd Z trivial pl a w r1 (by rw[hh];exact I.since);rw[Qfn]at this;refine Oper.wp_mono (λa' w' hq=>?_) this;obtain⟨he,d,h',Qm,v,hF,r',b',T,rfl⟩:=hq;refine⟨by rw[MS ho];exact he,?_⟩;have I':=I.next hD ho v (s':=⟨ZC s1.fr o.dst d,h'⟩) (by rw[hh]at T;exact T) r' b' (λd' hd h=>by rw[gF hd];exact hu d' h);exact ih r (i::done) _ _ Qm _ w' Z O7 I' PA hF
    show Bv P ops _ (yc nc ops) (R.length+qq r+1) ZL a w;simp only[AX]at h;split at h
    ·rename_i hg;exact go s rfl I.rel (λ_ h=>h) (by rw[hg];rfl) h
    ·rename_i x hg;exact skip s rfl I.rel (λ_ h=>h) (by rw[hg];rfl) h.1 h.2
    ·rename_i t x hg;split at h
     ·rename_i y hy;have hr:=I.rel.fr t;rw[hy]at hr;have hv:=JG hr;have hb:=rW hv;have zC:∀(e:D) d,get s.fr d=.undef->get (put s.fr t e) d=.undef:=λe d h=>by
       rw[FT,Qd (λe=>by rw[e,hy]at h;cases h)];exact h
      by_cases wX:y=x
      ·refine go ⟨put s.fr t (.raw (.bool x)),s.h⟩ rfl (I.rel.tell (t:=t) (d:=.raw (.bool x)) (by rw[hv,wX];exact .cl _ _ (.raw _))) (zC _) ?_ (h.1 wX);rw[hg];simp[XB,hb,wX]
      ·have Ic:y=(!x):=by cases x<;>cases y<;>simp_all
       have:=h.2 Ic;refine skip ⟨put s.fr t (.raw (.bool !x)),s.h⟩ rfl (I.rel.tell (t:=t) (d:=.raw (.bool (!x))) (by rw[hv,Ic];exact .cl _ _ (.raw _))) (zC _) ?_ this.1 this.2;rw[hg];simp[XB,hb,wX]
     ·rename_i vs hy;have hr:=I.rel.fr t;rw[hy]at hr;refine skip s rfl I.rel (λ_ h=>h) ?_ h.1 h.2;rw[hg];simp[XB,rX (JG hr)]
     ·exact h.elim
def QfA:Option Nat->Option Nat->Bool
 | some a,some b=>!Nat.beq a b
 | _,_=>true
def QfB(ops:Array Oper):Bool:=(List.range ops.size).all λi=>!VV ops i || (List.range ops.size).all λj=>Nat.beq i j || QfA ((ops[i]?).bind (·.dst)) ((ops[j]?).bind (·.dst))
def QfC:D->Bool
 | .undef=>true
 | _=>false
def CV(ops:Array Oper)(fr:List (Nat × D)):Bool:=(List.range ops.size).all λi=>!VV ops i || (match (ops[i]?).bind (·.dst) with|some d=>QfC (get fr d)|none=>true)
def QfD(L:Jt)(ops:Array Oper):Bool:=ops.toList.all λo=>match o.op with
 | .alloc t=>(ty L t).isSome&&o.dst.isSome
 | .makeMap _ none=>o.dst.isSome
 | _=>true
def gO(ops:Array Oper)(l:List (Nat × Bool)):List Nat->Bool
 | []=>true
 | i::r=>!Vi i r&&!Vi i (l.map (·.1))&&!VV ops i&&gO ops l r
def gP{ops}{l:List (Nat × Bool)}:∀{R:List Nat},gO ops l R=true->R.Nodup/\∀i∈R,i ∉ l.map (·.1)/\VV ops i=false
 | [],_=>⟨List.nodup_nil,by simp⟩
 | i::r,h=>by
  simp only[gO,Z9,jL]at h;obtain⟨⟨⟨h1,h2⟩,h3⟩,h4⟩:=h;obtain⟨k1,k2⟩:=gP h4;refine⟨Jf.2 ⟨λhm=>(by rw[ya.2 hm]at h1;cases h1),k1⟩,λj hj=>?_⟩;rcases QM.1 hj with rfl|hj
  ·exact⟨λhm=>(by rw[ya.2 hm]at h2;cases h2),h3⟩
  ·exact k2 j hj
def EG(nc:List Nat)(L:Jt)(ops:Array Oper)(l:List (Nat × Bool))(R:List Nat):Bool:=Region.noSelect ops&&Nat.beq (R.length+l.length) ops.size&&gB (l.map (·.1)++R) ops.size&&F9 nc L ops R (l.map λip=>(ip.1,ip.2,ops[ip.1]?)) []&&QfB ops&&QfD L ops&&gO ops l R&&Bw ops R (l.map (·.1))
def gQ(L:Jt)(ops:Array Oper)(l:List (Nat × Bool)):Bool:=EG [] L ops l []
def Qq9{ops}(h:QfB ops=true):Un ops:=by
 intro i j oi oj d Vy hl hi hj hd hd';have h1:=X6.1 h i (Tu.2 (WN.1 hi).1);rw[hl,FI,OK]at h1;have h2:=X6.1 h1 j (Tu.2 (WN.1 hj).1);simp only[hi,hj,eU,hd,hd',QfA,OT,FI,Bool.or_false,Wp]at h2;exact Vy h2
def Qrb{ops:Array Oper}{fr}(h:CV ops fr=true):∀i o d,VV ops i=true->ops[i]? = some o->o.dst=some d->get fr d=.undef:=by
 intro i o d hl hi hd;have h1:=X6.1 h i (Tu.2 (WN.1 hi).1);rw[hl]at h1;simp only[FI,OK,hi,eU,hd]at h1;unfold QfC at h1;split at h1
 ·assumption
 ·cases h1
def Qrc{P}{L}(hL:Jq P L){ops:Array Oper}(h:QfD L ops=true):∀j o,ops[j]? = some o->VV ops j=true->(∃ob mk,Ij P o ob mk)/\∃d,o.dst=some d:=by
 intro j o hj hl;have h1:=(gI hj hl).1;have hm:o∈ops.toList:=by have:=Array.mem_of_getElem? hj;simpa using this
 have h2:=X6.1 h o hm;unfold jo at h1;cases ho:o.op<;>rw[ho]at h1 h2<;>first|cases h1|skip
 ·rename_i t;simp only[Z9]at h2;obtain⟨y,hy⟩:=FO.1 h2.1;exact⟨⟨_,_,Qfl hL ho hy⟩,FO.1 h2.2⟩
 ·rename_i t rz;cases rz with
  | some x=>cases h1
  | none=>exact⟨⟨_,_,Qfm ho .i64⟩,FO.1 h2⟩
def QfE{L}{ops:Array Oper}{R}:∀{l:List (Nat × Bool)} {done:List Nat},F9 nc L ops R (l.map λip=>(ip.1,ip.2,ops[ip.1]?)) done=true->∀i p,(i,p)∈l->VV ops i=true->p=false
 | [],_,_,_,_,h,_=>by cases h
 | (j,q)::r,done,h,i,p,hm,hl=>by
  simp only[J7]at h;cases ho:ops[j]? with
  | none=>rw[ho]at h;cases h
  | some o=>
   rw[ho]at h;simp only[F9,Z9,jL]at h;rcases QM.1 hm with h1|h1
   ·cases h1;cases q with
    | false=>rfl
    | true=>have:=h.1.2;simp only[Z9,jL,hl]at this;cases this.1
   ·exact QfE h.2 i p h1 hl
def CW(l:List (Nat × Bool)):List En:=l.map λx=>(x.1,x.2,none)
def sB:∀l:List (Nat × Bool),qp (CW l)=l
 | []=>rfl
 | x::r=>congrArg (x::·) (sB r)
def QfF:∀l,early (CW l)=[]
 | []=>rfl
 | (_,_)::r=>QfF r
def sC:∀l,blocks (CW l)=[]
 | []=>rfl
 | (_,_)::r=>sC r
def QfG:∀l,qq (CW l)=l.length
 | []=>rfl
 | (_,_)::r=>by show qq (CW r)+1=_;rw[QfG r];rfl
def gS{l}{i}{p}{q}(h:(i,p,q)∈CW l):(i,p)∈l/\q=none:=by
 obtain⟨x,hx,e⟩:=Jk.1 h;cases e;exact⟨hx,rfl⟩
def QfH{L}(hL:Jq P L)(Zd:base<=w0.w.heap.size){id}{ops}{Q}{s:St}(hm:P.follows .mixedOrders=true)(l:List (Nat × Bool))(R:List Nat)(hB:EG nc L ops l R=true)(hU:CV ops s.fr=true)(h:AX P base nt w0 (Gc nc P base nt w0 ops (λs=>Q .normal s) R.length R (l.map (·.1))) (VO nc ops l) s):A P base nt w0 (.region id ops true) Q s:=by
 intro Z z pl a w r b;simp only[EG,Z9]at hB;obtain⟨⟨⟨⟨⟨⟨⟨b1,b2⟩,b3⟩,b4⟩,b5⟩,b6⟩,b7⟩,b8⟩:=hB;obtain⟨c1,c2⟩:=gP b7;have hlen:=Tz b2;have M:Marks ops (Array.replicate ops.size false) []:=⟨by simp,λj hj=>by simp[hj],λj=>by
  rcases Bb j ops.size with h'|h'
  ·simp[h']
  ·simp[h'],λj hj=>by cases hj⟩
 have b':Vp Z base w0 s.h pl { w with drawn:=w.drawn+1 }:=⟨⟨b.1.os,b.1.tape,b.1.output,b.1.size,b.1.block⟩,⟨b.2.1.KE,b.2.1.obj,b.2.1.shape⟩,⟨b.2.2.new,b.2.2.own⟩⟩;have I:Al nc P L ops R base nt w0 Z Z (CW l) [] (Array.replicate ops.size false) s pl a { w with drawn:=w.drawn+1 }:=by
  refine⟨by rw[sB];exact b4,λj hj _=>?_,λj hj=>⟨by simp,by have:=(c2 j hj).1;simpa[X9,CW] using this,(c2 j hj).2⟩,by rw[QfF];exact M,λi p b h=>?_,λi p q h hl=>QfE b4 i p (gS h).1 hl,λb=>by rw[sC];simp,λi p b h=>?_,by rw[sC];exact List.nodup_nil,λi p q h hl o d ho hd=>Qrb hU i o d hl ho hd,r.ext λ_ _=>rfl,b',λi p b h=>?_⟩
  ·have:=Qfi b3 j hj;simpa[X9,CW] using this
  ·cases (gS h).2
  ·cases (gS h).2
  ·cases (gS h).2
 have:=Qq2 hL b1 Zd (Qq9 b5) (Qrc hL b6) c1 b8 _ (CW l) [] _ s pl a _ Z (QB _) I (λj=>by simp[X9,CW]) (by rw[sB];exact h);rw[QfG,hlen]at this;exact wp_region_any hm (gv (λa w hn=>hn) _ _ _ _ this)
def Qrd{L}(hL:Jq P L)(Zd:base<=w0.w.heap.size){id}{ops}{Q}{s:St}(hm:P.follows .mixedOrders=true)(l)(hB:gQ L ops l=true)(hU:CV ops s.fr=true)(h:AX P base nt w0 (λs=>Q .normal s) (VO [] ops l) s):A P base nt w0 (.region id ops true) Q s:=
 QfH hL Zd hm l [] hB hU h
def Qre{L}(hL:Jq P L)(Zd:base<=w0.w.heap.size){id}{ops}{Q}{k}{s:St}(hm:P.follows .mixedOrders=true)(l)(hB:gQ L ops l=true)(hU:CV ops s.fr=true)(h:AX P base nt w0 (λs=>QA P base nt w0 Q k .normal s) (VO [] ops l) s):QA P base nt w0 Q (.code (.region id ops true)::k) .normal s:=by
 simp only[QA];exact Qrd hL Zd hm l hB hU h
def QfI{L}(hL:Jq P L)(Zd:base<=w0.w.heap.size){id}{ops}{Q}{k}{s:St}(hm:P.follows .mixedOrders=true)(l:List (Nat × Bool))(R:List Nat)(hB:EG nc L ops l R=true)(hU:CV ops s.fr=true)(h:AX P base nt w0 (Gc nc P base nt w0 ops (λs=>QA P base nt w0 Q k .normal s) R.length R (l.map (·.1))) (VO nc ops l) s):QA P base nt w0 Q (.code (.region id ops true)::k) .normal s:=by
 simp only[QA];exact QfH hL Zd hm l R hB hU h
end
section
variable (P:Program)(base:Nat)(w0:Start)(X:Cx)(nt:Nat)
def MX(pu:Bool)(o:Oper)(F:St->Prop)(stop:Prop)(s:St):Prop:=match Ai X s o.op with
 | some (p,d)=>p/\ZQ nt o.dst=true/\F ⟨ZC s.fr o.dst d,s.h⟩
 | none=>match pu with
  | true=>False
  | false=>match Bt X s o.op with
   | some (p,h,d)=>p/\ZQ nt o.dst=true/\F ⟨ZC s.fr o.dst d,h⟩
   | none=>stop
def Bz(K:St->Prop):List (Bool × Oper × G)->St->Prop
 | [],s=>K s
 | (pu,o,g)::r,s=>match g with
  | none=>MX X nt pu o (Bz K r) (AX P base nt w0 K ((pu,o,none)::r) s) s
  | some (none,_)=>ZQ nt o.dst=true/\Bz K r ⟨ZC s.fr o.dst (.raw Go.undef),s.h⟩
  | some (some t,b)=>match get s.fr t with
   | .raw (.bool x)=>(F4 b x=true->MX X nt pu o (Bz K r) (AX P base nt w0 K ((pu,o,none)::r) ⟨put s.fr t (.raw (.bool b)),s.h⟩) ⟨put s.fr t (.raw (.bool b)),s.h⟩) /\
     (F4 b x=false->ZQ nt o.dst=true/\Bz K r ⟨ZC (put s.fr t (.raw (.bool (!b)))) o.dst (.raw Go.undef),s.h⟩)
   | .raw (.tuple _)=>ZQ nt o.dst=true/\Bz K r ⟨ZC s.fr o.dst (.raw Go.undef),s.h⟩
   | _=>False
end
section
variable {nc:List Nat}{P:Program}{base nt:Nat}{w0:Start}
def Qrf{X}(hX:zB P X)(Zd:base<=w0.w.heap.size){pu}{o}{F F'}{stop}{s}(hF:∀s,F s->F' s)(Qrg:stop->XR P base nt w0 pu o F' s)(h:MX X nt pu o F stop s):XR P base nt w0 pu o F' s:=by
 unfold MX at h;split at h
 ·rename_i p d hp;have ok:=Qe4 (P:=P) (base:=base) (nt:=nt) hX hp h.1;have hk:=hF _ h.2.2;cases pu with
  | true=>
   refine⟨d,ok,λUt=>?_,h.2.1,hk⟩;unfold EC at Ut;split at Ut
   ·rename_i t x ho;simp only[Ai,ho]at hp;exact Qek hX.L ho hp h.1
   ·cases Ut
  | false=>
   have hl:jo o=false:=by
    cases hl:jo o with
    | false=>rfl
    | true=>
     unfold jo at hl;cases ho:o.op<;>rw[ho]at hl<;>first|cases hl|skip
     all_goals
      rw[ho]at hp;simp[Ai]at hp
   simp only[XR,hl];intro Z z pl a w r b;obtain⟨v,hv,Zl⟩:=ok Z pl a w r;unfold Oper.wp;rw[Zl w λ_ _=>rfl];simp only[Oper.upon_value];refine⟨.ext (Ext.refl _),_,_,pl,v,hk,?_,b,Tr.refl _ _ _,rfl⟩;cases hd:o.dst with
   | none=>exact r
   | some t=>have ht:=h.2.1;rw[hd]at ht;exact r.to (Tr.ext r.o λ_ _=>rfl) r.o (kI ht) hv
 ·split at h
  ·exact h.elim
  ·split at h
   ·rename_i p h' d hp;have ok:=Qe5 (P:=P) (base:=base) (nt:=nt) hX hp h.1;have hk:=hF _ h.2.2;have ht:=h.2.1;cases hl:jo o with
    | true=>
     unfold jo at hl;cases ho:o.op<;>rw[ho]at hl<;>first|cases hl|skip
     ·rename_i t;simp only[ho,Bt]at hp;split at hp
      ·rename_i y hy;simp only[Za,Zp]at hp;obtain⟨_,rfl,rfl⟩:=hp;have hl:jo o=true:=by simp[jo,ho]
       simp only[XR,hl];exact⟨_,_,Qfl hX.L ho hy,ht,hk⟩
      ·cases hp
     ·rename_i t rz;cases rz with
      | some x=>cases hl
      | none=>
       simp only[ho,Bt]at hp;have hq:∃q,h'=s.h++[QS q 0 []]/\d=.mref s.h.length 0:=by
        unfold Pe at hp;split at hp
        ·split at hp;all_goals
          simp only[Za,Zp]at hp;obtain⟨_,rfl,rfl⟩:=hp;exact⟨_,rfl,rfl⟩
        ·cases hp
       obtain⟨q,rfl,rfl⟩:=hq;have hl:jo o=true:=by simp[jo,ho]
       simp only[XR,hl];exact⟨_,_,Qfm ho q,ht,hk⟩
    | false=>
    simp only[XR,hl];intro Z z pl a w r b;have QfJ:ED o=false:=by
     cases hi:ED o with
     | false=>rfl
     | true=>
      unfold ED at hi;split at hi
      ·rename_i ho;simp[Bt,ho]at hp
      ·cases hi
    obtain⟨v,w',Qm,Zl,hT,hO,hv,hb,MQ⟩:=ok Z pl a w r (KZ Zd b.1.size);have fin:∀u,u=v->Rel Z base nt ⟨ZC s.fr o.dst d,h'⟩ Qm (a.put o.dst u) w':=by
     rintro u rfl;cases hd:o.dst with
     | none=>exact r.Bg hT hO u
     | some t=>rw[hd]at ht;exact r.to hT hO (kI ht) hv
    unfold Oper.wp;rcases Zl with Zl|⟨Zl,hu⟩
    ·rw[Zl];simp only[Oper.upon_value];exact⟨.mk (λhc=>MQ (by simp only[F8,Z9]at hc;exact hc.1)) QfJ,_,_,Qm,_,hk,fin v rfl,b.step hT hb,hT,rfl⟩
    ·rw[Zl];simp only[Oper.upon_skip];exact⟨.mk (λhc=>MQ (by simp only[F8,Z9]at hc;exact hc.1)) QfJ,_,_,Qm,_,hk,fin _ hu.symm,b.step hT hb,hT,rfl⟩
   ·exact Qrg h
def Ge{X}(hX:zB P X)(Zd:base<=w0.w.heap.size){K}:∀(l:List (Bool × Oper × G)) (s:St),Bz P base w0 X nt K l s->AX P base nt w0 K l s
 | [],s,h=>h
 | (pu,o,g)::r,s,h=>by
  have st:∀s,MX X nt pu o (Bz P base w0 X nt K r) (AX P base nt w0 K ((pu,o,none)::r) s) s->XR P base nt w0 pu o (AX P base nt w0 K r) s:=λs hh=>
   Qrf hX Zd (λs=>Ge hX Zd r s) (λh=>h) hh
  simp only[Bz]at h;simp only[AX];split at h
  ·exact st s h
  ·exact⟨h.1,Ge hX Zd r _ h.2⟩
  ·rename_i t b;split at h
   ·rename_i x hx;simp only[Qe6,vG,jO,ne_eq]at h;refine⟨λe=>st _ (h.1 e),λe=>?_⟩;have:=h.2 (by rw[e];cases b<;>simp);exact⟨this.1,Ge hX Zd r _ this.2⟩
   ·exact⟨h.1,Ge hX Zd r _ h.2⟩
   ·exact h.elim
def Yd(d':D):D->Prop
 | .imm z n r=>match d' with
  | .imm z' n' r'=>z'=z/\n'=n/\∀i,i<n->r' i=r i
  | _=>False
 | .raw v=>d'=.raw v
 | .nil=>d'=.nil
 | .undef=>d'=.undef
 | .ip c=>d'=.ip c
 | .ref l g o n=>d'=.ref l g o n
 | .ptr l g i j=>d'=.ptr l g i j
 | .mref l g=>d'=.mref l g
 | .clo f n c=>d'=.clo f n c
 | .agg c=>d'=.agg c
 | .tup c=>d'=.tup c
def WH:List D->List D->Prop
 | [],[]=>True
 | d'::r',d::r=>Yd d' d/\WH r' r
 | _,_=>False
def Qrh{N}{w}{d' d}{v}(h:Yd d' d)(c:Cl N w d' v):Cl N w d v:=by
 cases d<;>simp only[Yd]at h;case imm z n r=>
  split at h
  ·obtain⟨rfl,rfl,h⟩:=h;cases c with
   | imm _ _ _ a cap b o vs ha hl hs hc hr=>
    exact .imm _ _ _ a cap b o vs ha hl (λi hi=>by rw[<- h i hi];exact hs i hi) hc (λi j hi hj=>by rw[<- h i hi];exact hr i j hi hj)
  ·exact h.elim
 all_goals subst h;exact c
def QfK:∀{cs' cs:List D},WH cs' cs->cs'.length=cs.length/\∀i,i<cs.length->Yd (nth cs' i) (nth cs i)
 | [],[],_=>⟨rfl,λi hi=>by simp at hi⟩
 | [],_::_,h=>h.elim
 | _::_,[],h=>h.elim
 | d'::r',d::r,h=>by
  obtain⟨h1,h2⟩:=QfK h.2;refine⟨by simp[h1],λi hi=>?_⟩;cases i with
  | zero=>exact h.1
  | succ i=>have:=h2 i (by simpa using hi);simpa[nth] using this
def Qri{Z}{h}{pl}{w}{d' d}{v}(e:Yd d' d)(r:QE Z h pl w d' v):QE Z h pl w d v:=by
 cases d<;>simp only[Yd]at e;case imm z n r0=>
  split at e
  ·cases r with
   | cl _ _ hc=>exact .cl _ _ (Qrh (d:=.imm z n r0) (by simpa only[Yd] using e) hc)
  ·exact e.elim
 all_goals subst e;exact r
def QK.args{P}{f}{F}{cs' cs}{R}(h:QK P f F cs R)(e:WH cs' cs):QK P f F cs' R:=λZ base w pl vs h1 h2 h3 hl hc=>by
 obtain⟨e1,e2⟩:=QfK e;exact h Z base w pl vs h1 h2 h3 (by omega) λi hi=>Qri (e2 i hi) (hc i (by omega))
def Q4.args{P}{f}{cs' cs}{R}(h:Q4 P f cs R)(e:WH cs' cs):Q4 P f cs' R:=QK.args h e
def Vj(Zd:base<=w0.w.heap.size){K}{dst}{ty:TypeId}{pos}{after}{gd}{r}{s}{x}{args}{Jm:Array TypeId}{f}{nf}{QI}(hf:Qo P f)
  (hx:KM (Qt s.fr x)=some (f,nf,QI)) {cs:List D} (JW:match vQ (XQ s.h 4) (JT nf QI (args.toList.map (Qt s.fr))) with|some (p,cs')=>p/\WH cs' cs|none=>False) {R:D->List Ob->Prop} (hF:Q4 P f cs R)
  (MM:∀d h,R d h->d.flat=true/\∀o∈h,o.flat) (ht:ZQ nt dst=true) (hk:∀d h,R d h->AX P base nt w0 K r ⟨ZC s.fr dst (d.shift s.h.length),s.h++h.map (Ob.shift s.h.length)⟩) :
  AX P base nt w0 K ((false,⟨dst,.call ⟨.value x,args,Jm⟩,ty,pos,after,gd⟩,none)::r) s:=by
 simp only[AX,XR,jo];intro Z z pl a w rr b;split at JW
 ·rename_i p cs' hc;obtain⟨hp,he⟩:=JW;have hF:=hF.args he;refine Oper.wp_mono (λa' w' ⟨he,d,h,Qm,hR,r',b',T,v,e⟩=>⟨λ_=>he,_,_,Qm,v,hk d h hR,r',b',T,e⟩) (Qfa Zd hf rfl hx hc hp hF MM ht pl a w rr b _)
 ·exact JW.elim
def ZW(Zd:base<=w0.w.heap.size){Q}{k}{dst}{ty:TypeId}{pos}{after}{gd}{r}{s}{x}{args}{Jm:Array TypeId}{f}{nf}{QI}(hf:Qo P f)
  (hx:KM (Qt s.fr x)=some (f,nf,QI)) {cs:List D} (JW:match vQ (XQ s.h 4) (JT nf QI (args.toList.map (Qt s.fr))) with|some (p,cs')=>p/\WH cs' cs|none=>False) {R:D->List Ob->Prop} (hF:Q4 P f cs R)
  (MM:∀d h,R d h->d.flat=true/\∀o∈h,o.flat) (ht:ZQ nt dst=true) (hk:∀d h,R d h->QA P base nt w0 Q (.ops r::k) .normal ⟨ZC s.fr dst (d.shift s.h.length),s.h++h.map (Ob.shift s.h.length)⟩) :
  QA P base nt w0 Q (.ops ((⟨dst,.call ⟨.value x,args,Jm⟩,ty,pos,after,gd⟩,none)::r)::k) .normal s:=by
 simp only[QA]at hk ⊢;split at JW
 ·rename_i p cs' hc;obtain⟨hp,he⟩:=JW;have hF:=hF.args he;exact QqF Zd hf rfl hx hc hp hF MM ht hk
 ·exact JW.elim
end
section
variable {nc:List Nat}{P:Program}{base nt:Nat}{w0:Start}
def XR.mono{pu}{o}{F F'}(hF:∀s,F s->F' s){s}(h:XR P base nt w0 pu o F s):XR P base nt w0 pu o F' s:=by
 cases pu with
 | true=>obtain⟨d,h1,h2,h3,h4⟩:=h;exact⟨d,h1,h2,h3,hF _ h4⟩
 | false=>
  simp only[XR]at h ⊢;split at h
  ·obtain⟨ob,mk,h1,h2,h3⟩:=h;exact⟨ob,mk,h1,h2,hF _ h3⟩
  intro Z z pl a w r b;exact Oper.wp_mono (λa' w' ⟨he,d,h',Qm,v,h1,h2⟩=>⟨he,d,h',Qm,v,hF _ h1,h2⟩) (h Z z pl a w r b)
def AX.mono{K K'}(hK:∀s,K s->K' s):∀(l:List (Bool × Oper × G)) (s:St),AX P base nt w0 K l s->AX P base nt w0 K' l s
 | [],s,h=>hK s h
 | (pu,o,g)::r,s,h=>by
  simp only[AX]at h ⊢;split at h
  ·exact XR.mono (AX.mono hK r) h
  ·exact⟨h.1,AX.mono hK r _ h.2⟩
  ·split at h
   ·exact⟨λe=>XR.mono (AX.mono hK r) (h.1 e),λe=>⟨(h.2 e).1,AX.mono hK r _ (h.2 e).2⟩⟩
   ·exact⟨h.1,AX.mono hK r _ h.2⟩
   ·exact h.elim
end
end Go.Fg
namespace Go.Fg
attribute [go_sem_proc] reduceIte reduceDIte dreduceIte dreduceDIte reduceCtorEq List.reduceReplicate Nat.reduceAdd Nat.reduceSub Nat.reduceMul Nat.reduceBEq Nat.reduceLT Nat.reduceGT Nat.reduceLeDiff Nat.reduceEqDiff Nat.reduceBneDiff Nat.reduceBeqDiff Nat.reduceSubDiff Nat.reduceBNe Nat.reduceDiv Nat.reduceMod Nat.reduceSucc Nat.reducePow Nat.reduceDvd Int.reduceToNat Int.reduceLE Int.reduceLT Int.reduceGT Int.reduceGE Int.reduceEq Int.reduceNe Int.reduceAdd Int.reduceSub Int.reduceMul Int.reduceNeg Int.reduceDiv Int.reduceMod Int.reducePow Int.reduceBEq Int.reduceBNe Int.reduceOfNat Int.reduceNegSucc Int.reduceNatCast Int.reduceNatCast' Int.reduceAbs Int.reduceDvd
def Vq{α:Sort _}{a b:α}(h:a=b):a=b:=h
@[go_sem] theorem QI0(a b:Nat):Nat.beq a b=(a==b):=by
 rw[kx];simp[Wp]
@[go_sem] theorem Qrj(a b):Nat.blt a b=decide (a<b):=by
 rw[kx];simp[xU]
@[go_sem] theorem Gf(a b:Nat):Nat.ble a b=decide (a<=b):=by
 rw[kx];simp[Mm]
def hx(P:Program)(base:Nat)(w0:Start)(Q:Exit->St->Prop)(X:Cx)(nt n:Nat)(k:List Item)(s:St):Prop:=(exec X nt n k s).holds P base nt w0 Q
def hz(P:Program)(base:Nat)(w0:Start)(Q:Exit->St->Prop)(X:Cx)(nt n:Nat)(k:List Item)(s:St):Prop:=hx P base w0 Q X nt n k s
def WT(b:Bool)(A B:Prop):Prop:=(b=true->A)/\(b=false->B)
def Ja(b:Bool)(A:Prop):Prop:=b=true/\A
section
variable {P:Program}{base:Nat}{w0:Start}{Q:Exit->St->Prop}{X:Cx}{nt n:Nat}{k:List Item}{s:St}
@[go_sem ↓] theorem QI1{B}:WT true (hz P base w0 Q X nt n k s) B=hx P base w0 Q X nt n k s:=by simp[WT,hz]
@[go_sem ↓] theorem QI2{A}:WT false A (hz P base w0 Q X nt n k s)=hx P base w0 Q X nt n k s:=by simp[WT,hz]
def XS{b}{k'}{s'}(h1:b=true->hx P base w0 Q X nt n k s)(h2:b=false->hx P base w0 Q X nt n k' s'):WT b (hz P base w0 Q X nt n k s) (hz P base w0 Q X nt n k' s'):=⟨h1,h2⟩
@[go_sem] theorem QI3:hx P base w0 Q X nt (n+1) [] s=Q .normal s:=Vq rfl
@[go_sem] theorem QI4{id}:hx P base w0 Q X nt (n+1) (.inBlock id::k) s=hx P base w0 Q X nt n k s:=Vq rfl
@[go_sem] theorem QI5:hx P base w0 Q X nt (n+1) (.code .skip::k) s=hx P base w0 Q X nt n k s:=Vq rfl
@[go_sem] theorem QI6{l}:hx P base w0 Q X nt (n+1) (.code (.label l)::k) s=hx P base w0 Q X nt n k s:=Vq rfl
@[go_sem] theorem QI7{a b}:hx P base w0 Q X nt (n+1) (.code (.seq a b)::k) s=hx P base w0 Q X nt n (.code a::.code b::k) s:=Vq rfl
@[go_sem] theorem QI8{id}{c}:hx P base w0 Q X nt (n+1) (.code (.block id c)::k) s=hx P base w0 Q X nt n (.code c::.inBlock id::k) s:=Vq rfl
@[go_sem] theorem QI9:hx P base w0 Q X nt (n+1) (.inScope::k) s=hx P base w0 Q X nt n k s:=Vq rfl
@[go_sem] theorem QJa{c}:hx P base w0 Q X nt (n+1) (.code (.scope c)::k) s=hx P base w0 Q X nt n (.code c::.inScope::k) s:=Vq rfl
@[go_sem] theorem QJb{c}{a b}:hx P base w0 Q X nt (n+1) (.code (.cond c a b)::k) s=(match Qt s.fr c with
  | .raw (.bool x)=>WT x (hz P base w0 Q X nt n (.code a::k) s) (hz P base w0 Q X nt n (.code b::k) s)
  | _=>False):=by
 simp only[hx,exec];generalize Qt s.fr c=d;cases d with
 | raw v=>cases v<;>rfl
 | _=>rfl
@[go_sem] theorem QJc{id}:hx P base w0 Q X nt (n+1) (.code (.exit id)::k) s=(match kH id k with
  | some k'=>hx P base w0 Q X nt n k' s
  | none=>Q (.exit id) s):=by
 simp only[hx,exec];generalize kH id k=r;cases r<;>rfl
@[go_sem] theorem QJd:hx P base w0 Q X nt (n+1) (.code .ret::k) s=Q .ret s:=Vq rfl
@[go_sem] theorem QJe{id}{ops}:hx P base w0 Q X nt (n+1) (.code (.region id ops false)::k) s=hx P base w0 Q X nt n (.ops (CM ops)::k) s:=Vq rfl
@[go_sem] theorem QJf{id}{ops}:hx P base w0 Q X nt (n+1) (.code (.region id ops true)::k) s=QA P base nt w0 Q (.code (.region id ops true)::k) .normal s:=Vq rfl
@[go_sem] theorem QJg{c}:hx P base w0 Q X nt (n+1) (.code (.loop c)::k) s=QA P base nt w0 Q (.code (.loop c)::k) .normal s:=Vq rfl
@[go_sem] theorem QJh:hx P base w0 Q X nt (n+1) (.ops []::k) s=hx P base w0 Q X nt n k s:=Vq rfl
@[go_sem ↓] theorem QJi{A}:Ja true A=A:=by simp[Ja]
@[go_sem] theorem QJj{o:Oper}{r}:hx P base w0 Q X nt (n+1) (.ops ((o,none)::r)::k) s=(match Ai X s o.op with
  | some (p,d)=>p/\(match ZQ nt o.dst with|true=>hx P base w0 Q X nt n (.ops r::k) ⟨ZC s.fr o.dst d,s.h⟩|false=>False)
  | none=>match Bt X s o.op with
   | some (p,h,d)=>p/\(match ZQ nt o.dst with|true=>hx P base w0 Q X nt n (.ops r::k) ⟨ZC s.fr o.dst d,h⟩|false=>False)
   | none=>QA P base nt w0 Q (.ops ((o,none)::r)::k) .normal s):=by
 simp only[hx,exec];generalize Ai X s o.op=r1;generalize Bt X s o.op=r2;cases r1 with
 | some pd=>cases ZQ nt o.dst<;>simp[Tree.holds]
 | none=>cases r2 with
  | some phd=>cases ZQ nt o.dst<;>simp[Tree.holds]
  | none=>rfl
def QfL{o:Oper}{t}{b}{r}(ht:ZQ nt o.dst=true):hx P base w0 Q X nt (n+1) (.ops ((o,some (some t,b))::r)::k) s=(match get s.fr t with
  | .raw (.bool x)=>WT (F4 b x) (hz P base w0 Q X nt n (.ops ((o,none)::r)::k) ⟨put s.fr t (.raw (.bool b)),s.h⟩) (hz P base w0 Q X nt n (.ops r::k) ⟨ZC (put s.fr t (.raw (.bool (!b)))) o.dst (.raw Go.undef),s.h⟩)
  | .raw (.tuple _)=>hx P base w0 Q X nt n (.ops r::k) ⟨ZC s.fr o.dst (.raw Go.undef),s.h⟩
  | _=>False):=by
 simp only[hx,exec];generalize get s.fr t=d;cases d with
 | raw v=>
  cases v with
  | bool x=>simp[WT,hz,hx,ht,Tree.holds]
  | tuple vs=>simp[ht]
  | _=>rfl
 | _=>rfl
@[go_sem] theorem QJk{o:Oper}{t}{r}(ht:ZQ nt o.dst=true):hx P base w0 Q X nt (n+1) (.ops ((o,some (some t,true))::r)::k) s=(match get s.fr t with
  | .raw (.bool x)=>WT x (hz P base w0 Q X nt n (.ops ((o,none)::r)::k) ⟨put s.fr t (.raw (.bool true)),s.h⟩) (hz P base w0 Q X nt n (.ops r::k) ⟨ZC (put s.fr t (.raw (.bool false))) o.dst (.raw Go.undef),s.h⟩)
  | .raw (.tuple _)=>hx P base w0 Q X nt n (.ops r::k) ⟨ZC s.fr o.dst (.raw Go.undef),s.h⟩
  | _=>False):=QfL ht
@[go_sem] theorem QJl{o:Oper}{t}{r}(ht:ZQ nt o.dst=true):hx P base w0 Q X nt (n+1) (.ops ((o,some (some t,false))::r)::k) s=(match get s.fr t with
  | .raw (.bool x)=>WT x (hz P base w0 Q X nt n (.ops r::k) ⟨ZC (put s.fr t (.raw (.bool true))) o.dst (.raw Go.undef),s.h⟩) (hz P base w0 Q X nt n (.ops ((o,none)::r)::k) ⟨put s.fr t (.raw (.bool false)),s.h⟩)
  | .raw (.tuple _)=>hx P base w0 Q X nt n (.ops r::k) ⟨ZC s.fr o.dst (.raw Go.undef),s.h⟩
  | _=>False):=by
 rw[QfL ht];generalize get s.fr t=d;cases d with
 | raw v=>
  cases v with
  | bool x=>cases x<;>simp[WT,F4]
  | _=>rfl
 | _=>rfl
end
section
variable {P:Program}{base nt:Nat}{w0:Start}{Q:Exit->St->Prop}{k:List Item}{s:St}{I:Nat->St->Prop}{m:Nat}
@[go_sem] theorem QJm{e}:QA P base nt w0 Q [] e s=Q e s:=Vq rfl
@[go_sem] theorem QJn{x}:QA P base nt w0 Q (x::k) .ret s=QA P base nt w0 Q k .ret s:=by cases x<;>rfl
@[go_sem] theorem QJo{c}{j}:QA P base nt w0 Q (.code c::k) (.exit j) s=QA P base nt w0 Q k (.exit j) s:=Vq rfl
@[go_sem] theorem QJp{l}{j}:QA P base nt w0 Q (.ops l::k) (.exit j) s=QA P base nt w0 Q k (.exit j) s:=Vq rfl
@[go_sem] theorem QJq{id}:QA P base nt w0 Q (.inBlock id::k) (.exit id) s=QA P base nt w0 Q k .normal s:=by simp[QA]
@[go_sem] theorem QJr{id j}(h:(j==id)=false):QA P base nt w0 Q (.inBlock id::k) (.exit j) s=QA P base nt w0 Q k (.exit j) s:=by
 have:¬ j=id:=by simpa using h
 simp[QA,this]
@[go_sem] theorem QJs{id}:QA P base nt w0 Q (.inBlock id::k) .normal s=QA P base nt w0 Q k .normal s:=Vq rfl
@[go_sem] theorem QJt{j}:QA P base nt w0 Q (.inScope::k) (.exit j) s=QA P base nt w0 Q k (.exit j) s:=Vq rfl
@[go_sem] theorem QJu:QA P base nt w0 Q (.inScope::k) .normal s=QA P base nt w0 Q k .normal s:=Vq rfl
@[go_sem] theorem QJv:gp P base nt w0 Q k I m .normal s=∃m' s',m'<m/\Qp w0 s s'/\I m' s':=Vq rfl
@[go_sem] theorem QJw{j}:gp P base nt w0 Q k I m (.exit j) s=QA P base nt w0 Q k (.exit j) s:=Vq rfl
@[go_sem] theorem QJx:gp P base nt w0 Q k I m .ret s=QA P base nt w0 Q k .ret s:=Vq rfl
end
attribute [go_sem] CM guardOf strip Qt get put ZC ZQ qd Kq Ai Bt kH F4
 fg eZ fa fb fc HJ HL fe pU IntKind.same Mv mk TK.agg O1 fi fj O3 fk fm fo fp
 Bl Cz setRow TP TR El fx Pc Af CD fy vM fB fG CG HV cat jk YS nth D.there J1 rq
 JT vQ XQ KM F5 one F6 D.shift Aj Ob.shift x9 D.WS D.flat Ey D.upto Bu Ig Ii CQ CP Pm Kd.Mp Kd.ty Kd.ro Kd.Ui Kd.toRo
attribute [go_sem] J7 List.map_nil List.getElem?_toArray List.getElem?_cons_zero List.getElem?_cons_succ List.getElem?_nil eU Option.bind_none K0 zq Vh List.length_nil qJ zo QU
 List.all_cons List.all_nil List.take_zero List.take_succ_cons List.take_nil List.drop_zero List.drop_succ_cons List.drop_nil List.set_cons_zero List.set_cons_succ List.getD_cons_zero List.getD_cons_succ List.replicate_zero eG List.flatten_cons List.flatten_nil
 Yr Xw FI Hx Bool.and_true Mg Bool.and_false Mf Bool.or_true Bool.true_or Bool.or_false OK Aa decide_true decide_false Bd and_true false_and and_false
 implies_true forall_const reduceCtorEq List.toList_toArray Int.toNat_natCast Int.natCast_nonneg Int.ofNat_lt Int.ofNat_le Int.ofNat_inj JV FM QB Z7 Za Zp
def Ye{P}{base nt}{w0:Start}{Q}{X}(hX:zB P X)(hb:base<=w0.w.heap.size)(n){k}{s}(h:hx P base w0 Q X nt n k s):QA P base nt w0 Q k .normal s:=vP hX hb n k s h
def Il{P:Program}{X}(hX:zB P X){f}{fn:Func}{c}(n)(hf:P.funcs[f]? = some fn)(hb:fn.body=some c){args:List D}{R}{nt}{rs}(vR:fn.ntmps=nt)(qs:fn.results=rs)(hn:Nat.ble args.length nt=true)
  (h:∀(base:Nat) (w:World),base<=w.heap.size->hx P base ⟨w,[],[]⟩ (F6 X.L rs.toList R) X nt n [.code c] ⟨x9 args 0,[]⟩):Q4 P f args R:=
 Qff hX n hf hb vR (OU hn) (by
  subst qs;intro base w pl hb hl;cases pl with
  | nil=>exact h base w hb
  | cons _ _=>simp at hl)
def Q6{P:Program}{X}(hX:zB P X){f}{fn:Func}{c}(n)(hf:P.funcs[f]? = some fn)(hb:fn.body=some c){F}{args:List D}{R}{nt}{rs}(vR:fn.ntmps=nt)(qs:fn.results=rs)(hn:Nat.ble args.length nt=true)
  (h:∀(base:Nat) (w:World) (pl:List Pl),base<=w.heap.size->hx P base ⟨w,F,pl⟩ (F6 X.L rs.toList R) X nt n [.code c] ⟨x9 args 0,F⟩):QK P f F args R:=
 Qff hX n hf hb vR (OU hn) (by subst qs;exact λbase w pl hb _=>h base w pl hb)
def Zv.take{Z}{base}{h:List Ob}{pl:List Pl}{w}(R:Zv Z base h pl w)(k)(h2:CQ k (h.take k)):Zv Z base (h.take k) (pl.take k) w:=by
 have Zk:∀(l:Nat) (p:Pl),(pl.take k)[l]? = some p->pl[l]? = some p:=λl p e=>by
  rw[Yq]at e;split at e
  ·exact e
  ·cases e
 have hh:∀(l:Nat) (o:Ob),(h.take k)[l]? = some o->h[l]? = some o:=λl o e=>by
  rw[Yq]at e;split at e
  ·exact e
  ·cases e
 refine⟨by simp[R.len],λl l' b q q' e1 e2=>R.inj l l' b q q' (Zk _ _ e1) (Zk _ _ e2),λl o ho hp=>R.VM l o (hh _ _ ho) (Zk _ _ hp),λl o b q ho hp=>?_⟩;obtain⟨g1,x⟩:=R.at_ l o b q (hh _ _ ho) (Zk _ _ hp);exact⟨g1,x.to rfl rfl rfl rfl (λ_ _=>rfl) λi j v hi hj hr=>hr.take (Pn (sb h2 l o ho i hi) j hj)⟩
def Kept(k:Nat)(R:D->List Ob->Prop)(d:D)(h:List Ob):Prop:=d.upto k=true/\CQ k (h.take k)/\R d (h.take k)
def Qrl{pl:List Pl}{k b}(h:XN pl b):XN (pl.take k) b:=λl q e=>by
 rw[Yq]at e;split at e
 ·exact h l q e
 ·cases e
def QK.take{P}{f}{F:List Ob}{args}{R}(k)(hk:F.length<=k)(h:QK P f F args (Kept k R)):QK P f F args R:=λZ base w pl vs h1 h2 h3 hl hc=>
 (h Z base w pl vs h1 h2 h3 hl hc).mono λ_ _ ⟨v,d,hh,Qm,k1,⟨a1,a2,a3⟩,k3,k4,k5,k6⟩=>⟨v,d,hh.take k,Qm.take k,k1,a3,k3.take k a2,k4.take a1,
  k5.keep hk ⟨λ_ hb=>Qrl hb,λl o p hl ho hp=>⟨o,by rw[Yq,Qf hl];exact ho,by rw[Yq,Qf hl];exact hp,rfl,rfl,rfl⟩⟩,k6⟩
def ZA(k){P:Program}{X}(hX:zB P X){f}{fn:Func}{c}(n)(hf:P.funcs[f]? = some fn)(hb:fn.body=some c){args:List D}{R}{nt}{rs}(vR:fn.ntmps=nt)(qs:fn.results=rs)(hn:Nat.ble args.length nt=true)
  (h:∀(base:Nat) (w:World),base<=w.heap.size->hx P base ⟨w,[],[]⟩ (F6 X.L rs.toList (Kept k R)) X nt n [.code c] ⟨x9 args 0,[]⟩):Q4 P f args R:=
 QK.take k (Z7 _) (Il hX n hf hb vR qs hn h)
attribute [go_sem] Kept
def QfN{k}:∀{h h':List Ob},CP h h'->CQ k h'->CQ k h
 | [],[],_,_=>trivial
 | [],_::_,h,_=>h.elim
 | _::_,[],h,_=>h.elim
 | _::_,_::_,h,h2=>⟨λi hi=>by rw[<- h.1.2.2.2.2 i hi];exact h2.1 i (by rw[h.1.2.2.1];exact hi),QfN h.2 h2.2⟩
def Wk.to{m}(k){fr fr'}{h h':List Ob}(hw:Ig fr fr'/\Ii k fr'=true/\CQ k h'/\CP (h.take k) h')(hm:m<=k:=by exact OU rfl):Wk m ⟨fr,h⟩ ⟨fr',h'⟩:=
 Wk.trans (Wk.frame hw.1) (Wk.trans (Wk.drop k hm hw.2.1 (QfN hw.2.2.2 hw.2.2.1)) (Wk.Ih hw.2.2.2))
def Qp.to{w0:Start}(k){fr fr'}{h h':List Ob}(hw:Ig fr fr'/\Ii k fr'=true/\CQ k h'/\CP (h.take k) h')(hm:w0.F.length<=k:=by exact OU rfl):Qp w0 ⟨fr,h⟩ ⟨fr',h'⟩:=(Wk.to k hw hm).up
def Qp.frame{w0}{fr fr'}{h}(hf:Ig fr fr'):Qp w0 ⟨fr,h⟩ ⟨fr',h⟩:=(Wk.frame hf).up
def Qp.Bh{w0}{fr}{h:List Ob}(t sz)(row)(ht:get fr t=.nil):Qp w0 ⟨fr,h⟩ ⟨put fr t (.ref h.length 0 0 0),h++[⟨.arr,0,sz,0,row⟩]⟩:=(Wk.Bh t sz row ht).up
def QJy{α:Type}[Inhabited α](sz:Nat)(enc:α->List D)(l:List α)(d:D)(h:List Ob):Prop:=∃g,d=.ref 0 g 0 l.length/\h=[⟨.arr,g,sz,l.length,λi=>enc (l.getD i default)⟩]
def QJy.flat{α:Type}[Inhabited α]{sz:Nat}{enc:α->List D}{l:List α}(he:∀x,Ey (enc x)=true):∀d h,QJy sz enc l d h->d.flat=true/\∀o∈h,o.flat:=by
 rintro d h ⟨g,rfl,rfl⟩;exact⟨rfl,λo ho=>by simp at ho;subst ho;exact λi _=>he _⟩
def PC(P:Program)(base:Nat)(w0:Start)(Q:Exit->St->Prop)(X:Cx)(nt n:Nat)(k:List Item)(s:St):Prop:=hx P base w0 Q X nt n k s
def Vk(P:Program)(base:Nat)(w0:Start)(X:Cx)(nt:Nat)(K:St->Prop)(l:List (Bool × Oper × G))(s:St):Prop:=Bz P base w0 X nt K l s
def jq(P:Program)(base:Nat)(w0:Start)(X:Cx)(nt:Nat)(K:St->Prop)(l:List (Bool × Oper × G))(s:St):Prop:=Vk P base w0 X nt K l s
section
variable {nc:List Nat}{P:Program}{base:Nat}{w0:Start}{Q:Exit->St->Prop}{X:Cx}{nt n:Nat}{k:List Item}{s:St}{l:List (Bool × Oper × G)}{K:St->Prop}
@[go_sem ↓] theorem QJz{B}:WT true (jq P base w0 X nt K l s) B=Vk P base w0 X nt K l s:=by simp[WT,jq]
@[go_sem ↓] theorem QJA{A}:WT false A (jq P base w0 X nt K l s)=Vk P base w0 X nt K l s:=by simp[WT,jq]
def zD{b}{l'}{s'}(h1:b=true->Vk P base w0 X nt K l s)(h2:b=false->Vk P base w0 X nt K l' s'):WT b (jq P base w0 X nt K l s) (jq P base w0 X nt K l' s'):=⟨h1,h2⟩
@[go_sem] theorem QJB:Vk P base w0 X nt K [] s=K s:=Vq rfl
@[go_sem] theorem QJC:PC P base w0 Q X nt n k s=hx P base w0 Q X nt n k s:=Vq rfl
@[go_sem] theorem QJD{o:Oper}{r}:Vk P base w0 X nt K ((true,o,none)::r) s=(match Ai X s o.op with
  | some (p,d)=>p/\(match ZQ nt o.dst with|true=>Vk P base w0 X nt K r ⟨ZC s.fr o.dst d,s.h⟩|false=>False)
  | none=>False):=by
 simp only[Vk,Bz,MX];generalize Ai X s o.op=r1;cases r1 with
 | some pd=>cases ZQ nt o.dst<;>simp
 | none=>rfl
@[go_sem] theorem QJE{o:Oper}{r}:Vk P base w0 X nt K ((false,o,none)::r) s=(match Ai X s o.op with
  | some (p,d)=>p/\(match ZQ nt o.dst with|true=>Vk P base w0 X nt K r ⟨ZC s.fr o.dst d,s.h⟩|false=>False)
  | none=>match Bt X s o.op with
   | some (p,h,d)=>p/\(match ZQ nt o.dst with|true=>Vk P base w0 X nt K r ⟨ZC s.fr o.dst d,h⟩|false=>False)
   | none=>AX P base nt w0 K ((false,o,none)::r) s):=by
 simp only[Vk,Bz,MX];generalize Ai X s o.op=r1;generalize Bt X s o.op=r2;cases r1 with
 | some pd=>cases ZQ nt o.dst<;>simp
 | none=>cases r2 with
  | some phd=>cases ZQ nt o.dst<;>simp
  | none=>rfl
def QfO{pu}{o:Oper}{t}{b}{r}(ht:ZQ nt o.dst=true):Vk P base w0 X nt K ((pu,o,some (some t,b))::r) s=(match get s.fr t with
  | .raw (.bool x)=>WT (F4 b x) (jq P base w0 X nt K ((pu,o,none)::r) ⟨put s.fr t (.raw (.bool b)),s.h⟩) (jq P base w0 X nt K r ⟨ZC (put s.fr t (.raw (.bool (!b)))) o.dst (.raw Go.undef),s.h⟩)
  | .raw (.tuple _)=>Vk P base w0 X nt K r ⟨ZC s.fr o.dst (.raw Go.undef),s.h⟩
  | _=>False):=by
 simp only[Vk,jq,Bz];generalize get s.fr t=d;cases d with
 | raw v=>
  cases v with
  | bool x=>simp[WT,ht]
  | tuple vs=>simp[ht]
  | _=>rfl
 | _=>rfl
@[go_sem] theorem QJF{pu}{o:Oper}{t}{r}(ht:ZQ nt o.dst=true):Vk P base w0 X nt K ((pu,o,some (some t,true))::r) s=(match get s.fr t with
  | .raw (.bool x)=>WT x (jq P base w0 X nt K ((pu,o,none)::r) ⟨put s.fr t (.raw (.bool true)),s.h⟩) (jq P base w0 X nt K r ⟨ZC (put s.fr t (.raw (.bool false))) o.dst (.raw Go.undef),s.h⟩)
  | .raw (.tuple _)=>Vk P base w0 X nt K r ⟨ZC s.fr o.dst (.raw Go.undef),s.h⟩
  | _=>False):=QfO ht
@[go_sem] theorem QJG{pu}{o:Oper}{t}{r}(ht:ZQ nt o.dst=true):Vk P base w0 X nt K ((pu,o,some (some t,false))::r) s=(match get s.fr t with
  | .raw (.bool x)=>WT x (jq P base w0 X nt K r ⟨ZC (put s.fr t (.raw (.bool true))) o.dst (.raw Go.undef),s.h⟩) (jq P base w0 X nt K ((pu,o,none)::r) ⟨put s.fr t (.raw (.bool false)),s.h⟩)
  | .raw (.tuple _)=>Vk P base w0 X nt K r ⟨ZC s.fr o.dst (.raw Go.undef),s.h⟩
  | _=>False):=by
 rw[QfO ht];generalize get s.fr t=d;cases d with
 | raw v=>
  cases v with
  | bool x=>cases x<;>simp[WT,F4]
  | _=>rfl
 | _=>rfl
def KU{id}{ops}(hX:zB P X)(hb:base<=w0.w.heap.size)(n)(hm:P.follows .mixedOrders=true)(l)(hB:gQ X.L ops l=true)(hU:CV ops s.fr=true)(h:Vk P base w0 X nt (PC P base w0 Q X nt n k) (VO [] ops l) s):QA P base nt w0 Q (.code (.region id ops true)::k) .normal s:=
 Qre hX.L hb hm l hB hU (AX.mono (λs hs=>Ye hX hb n hs) _ _ (Ge hX hb _ _ h))
def Qrm(hX:zB P X)(hb:base<=w0.w.heap.size)(h:Vk P base w0 X nt K l s):AX P base nt w0 K l s:=Ge hX hb _ _ h
abbrev MY:=Nat × Oper × G × List Nat
def MZ:List Edge->List Nat
 | []=>[]
 | e::r=>bif Region.binds .any e then e.on::MZ r else MZ r
def kN(nc:List Nat)(ops:Array Oper):List Nat->List MY
 | []=>[]
 | i::r=>match ops[i]? with
  | some o=>(i,qT (Vi i nc) o,guardOf ops o,MZ o.after.toList)::kN nc ops r
  | none=>kN nc ops r
def EH(i:Nat):List MY->List MY
 | []=>[]
 | e::r=>bif Nat.beq e.1 i then EH i r else e::EH i r
def PD(done:List Nat):List Nat->Bool
 | []=>true
 | i::r=>Vi i done&&PD done r
def Uu(F:MY->Prop):List MY->Prop
 | []=>True
 | e::r=>F e/\Uu F r
def Gg(P:Program)(base:Nat)(w0:Start)(X:Cx)(nt:Nat)(K:St->Prop):Nat->List MY->List Nat->St->Prop
 | 0,_,_,s=>K s
 | m+1,es,done,s=>Uu (λe=>match PD done e.2.2.2 with
  | true=>Vk P base w0 X nt (Gg P base w0 X nt K m (EH e.1 es) (e.1::done)) [(false,e.2.1,e.2.2.1)] s
  | false=>True) es
def sD{done}:∀{l:List Edge},vS done l=false->PD done (MZ l)=true
 | [],_=>rfl
 | e::r,h=>by
  simp only[vS,Hy,Me,Bool.not_eq_false']at h;simp only[MZ];cases hb:Region.binds .any e
  ·exact sD h.2
  ·simp only[Yr,PD,Z9];refine⟨h.1.resolve_left (by rw[hb];simp),sD h.2⟩
def QfP{F}:∀{l:List MY},Uu F l->∀e∈l,F e
 | [],_,e,he=>by cases he
 | x::r,h,e,he=>by
  rcases QM.1 he with rfl|he
  ·exact h.1
  ·exact QfP h.2 e he
def sF{ops:Array Oper}{i}{o:Oper}(ho:ops[i]? = some o):∀{R:List Nat},i∈R->(i,qT (Vi i nc) o,guardOf ops o,MZ o.after.toList)∈kN nc ops R
 | [],h=>by cases h
 | j::r,h=>by
  simp only[kN];rcases QM.1 h with rfl|h
  ·rw[ho];exact Vn ..
  ·split
   ·exact KI _ (sF ho h)
   ·exact sF ho h
def gT{ops}{i}:∀{R:List Nat},i ∉ R->EH i (kN nc ops R)=kN nc ops R
 | [],_=>rfl
 | j::r,h=>by
  simp only[QM,zw]at h;simp only[kN];split
  ·simp only[EH];have:Nat.beq j i=false:=by rw[<- qb,Wp];exact λe=>h.1 e.symm
   rw[this,Xw,gT h.2]
  ·exact gT h.2
def sG{ops}{i}:∀{R:List Nat},R.Nodup->EH i (kN nc ops R)=kN nc ops (R.erase i)
 | [],_=>rfl
 | j::r,h=>by
  obtain⟨h1,h2⟩:=Jf.1 h;by_cases Vy:j=i
  ·subst Vy;rw[List.erase_cons_head];simp only[kN];split
   ·simp only[EH,OT,Yr];exact gT h1
   ·exact gT h1
  ·rw[List.erase_cons_tail (by simpa using Vy)];have hb:Nat.beq j i=false:=by rw[<- qb,Wp];exact Vy
   simp only[kN];cases ho:ops[j]? with
   | some o=>simp only[EH,hb,Xw,sG h2]
   | none=>simp only[sG h2]
def sH(hX:zB P X)(hb:base<=w0.w.heap.size){ops}{K'}(hK:∀s,K s->K' s):∀(m:Nat) (R done:List Nat) (s:St),R.Nodup->Gg P base w0 X nt K m (kN nc ops R) done s->Gc nc P base nt w0 ops K' m R done s
 | 0,_,_,s,_,h=>hK s h
 | m+1,R,done,s,hd,h=>by
  intro i hi o ho hh;have h1:=QfP h _ (sF ho hi);simp only[sD hh]at h1;refine AX.mono (λs hs=>sH hX hb hK m (R.erase i) (i::done) s (hd.erase _) ?_) _ _ (Ge hX hb _ _ h1);rw[<- sG hd];exact hs
def QfQ(nc){id}{ops}(hX:zB P X)(hb:base<=w0.w.heap.size)(n)(hm:P.follows .mixedOrders=true)(l)(R)(hB:EG nc X.L ops l R=true)(hU:CV ops s.fr=true)
  (h:Vk P base w0 X nt (Gg P base w0 X nt (PC P base w0 Q X nt n k) R.length (kN nc ops R) (l.map (·.1))) (VO nc ops l) s):QA P base nt w0 Q (.code (.region id ops true)::k) .normal s:=by
 have hR:R.Nodup:=by
  simp only[EG,Z9]at hB;exact(gP hB.1.2).1
 exact QfI hX.L hb hm l R hB hU (AX.mono (λs hs=>sH hX hb (λs hs=>Ye hX hb n hs) _ _ _ s hR hs) _ _ (Ge hX hb _ _ h))
def QJH{id}{ops}(hX:zB P X)(hb:base<=w0.w.heap.size)(n)(hm:P.follows .mixedOrders=true)(l)(R)(hB:EG [] X.L ops l R=true)(hU:CV ops s.fr=true)
  (h:Vk P base w0 X nt (Gg P base w0 X nt (PC P base w0 Q X nt n k) R.length (kN [] ops R) (l.map (·.1))) (VO [] ops l) s):QA P base nt w0 Q (.code (.region id ops true)::k) .normal s:=QfQ [] hX hb n hm l R hB hU h
@[go_sem] theorem QJI{i}:Region.binds .any ⟨i,.data⟩=true:=rfl
@[go_sem] theorem QJJ{i}:Region.binds .any ⟨i,.chain⟩=true:=rfl
@[go_sem] theorem QJK{i}:Region.binds .any ⟨i,.guard⟩=true:=rfl
@[go_sem] theorem QJL{i}:Region.binds .any ⟨i,.phase⟩=true:=rfl
@[go_sem] theorem QJM{i}{d}:Region.binds .any ⟨i,.textOnly d⟩=false:=rfl
@[go_sem] theorem QJN{i}{d}:Region.binds .any ⟨i,.gcOnly d⟩=false:=rfl
@[go_sem] theorem QJO{es}{d}:Gg P base w0 X nt K 0 es d s=K s:=Vq rfl
@[go_sem] theorem QJP{m}{es}{d}:Gg P base w0 X nt K (m+1) es d s=Uu (λe=>match PD d e.2.2.2 with
  | true=>Vk P base w0 X nt (Gg P base w0 X nt K m (EH e.1 es) (e.1::d)) [(false,e.2.1,e.2.2.1)] s
  | false=>True) es:=Vq rfl
end
def Uv(P:Program)(base nt:Nat)(w0:Start)(Q:Exit->St->Prop)(k:List Item)(S:Nat->St->Prop)(N i:Nat):Exit->St->Prop
 | .normal,s=>i<N/\∃s',Qp w0 s s'/\S (i+1) s'
 | e,s=>QA P base nt w0 Q k e s
section
variable {P:Program}{base nt:Nat}{w0:Start}{Q:Exit->St->Prop}{k:List Item}{s:St}
@[go_sem] theorem QJQ{S}{N i}:Uv P base nt w0 Q k S N i .normal s=(i<N/\∃s',Qp w0 s s'/\S (i+1) s'):=Vq rfl
@[go_sem] theorem QJR{S}{N i j}:Uv P base nt w0 Q k S N i (.exit j) s=QA P base nt w0 Q k (.exit j) s:=Vq rfl
@[go_sem] theorem QJS{S}{N i}:Uv P base nt w0 Q k S N i .ret s=QA P base nt w0 Q k .ret s:=Vq rfl
def Jg{c}(S)(N){s0}(hw:Qp w0 s s0)(h0:S 0 s0)(round:∀i s,i<=N->S i s->QA P base nt w0 (Uv P base nt w0 Q k S N i) [.code c] .normal s):QA P base nt w0 Q (.code (.loop c)::k) .normal s:=by
 refine MP (λm s=>∃i,i+m=N/\S i s) N hw ⟨0,by omega,h0⟩ ?_;rintro m s ⟨i,hi,hs⟩;have:=round i s (by omega) hs;simp only[QA]at this ⊢;refine this.mono λe s' he=>?_;cases e with
 | normal=>obtain⟨h1,MO,h2,h3⟩:=he;exact⟨m - 1,MO,by omega,h2,i+1,by omega,h3⟩
 | _=>exact he
end
def kO{P}{base nt}{w0}{Q}{l}{k}{s s'}(h:Qp w0 s s')(hk:QA P base nt w0 Q (.ops l::k) .normal s'):QA P base nt w0 Q (.ops l::k) .normal s:=by
 simp only[QA]at hk ⊢;exact hk.X8 h
attribute [go_sem] qT kN MZ EH PD Vi Uu VO WH false_implies imp_self ne_eq not_false_eq_true not_true_eq_false Nat.one_ne_zero
@[go_sem] theorem QJT(v):D.KK (.raw v)=Bl v:=rfl
@[go_sem] theorem QJU  : D.KK (.nil)=true:=rfl
@[go_sem] theorem QJV  : D.KK (.undef)=false:=rfl
@[go_sem] theorem QJW(z n)(r):D.KK (.imm z n r)=true:=rfl
@[go_sem] theorem QJX(c):D.KK (.ip c)=true:=rfl
@[go_sem] theorem QJY(l g o n):D.KK (.ref l g o n)=true:=rfl
@[go_sem] theorem QJZ(l g i j):D.KK (.ptr l g i j)=true:=rfl
@[go_sem] theorem QJ0(l g):D.KK (.mref l g)=true:=rfl
@[go_sem] theorem QJ1(f)(n)(c):D.KK (.clo f n c)=true:=rfl
@[go_sem] theorem QJ2(c):D.KK (.agg c)=false:=rfl
@[go_sem] theorem QJ3(c):D.KK (.tup c)=false:=rfl
@[go_sem] theorem QJ4(v):YR (.raw v)=bif D.KK (.raw v) then some [.raw v] else none:=rfl
@[go_sem] theorem QJ5  : YR (.nil)=bif D.KK (.nil) then some [.nil] else none:=rfl
@[go_sem] theorem QJ6  : YR (.undef)=bif D.KK (.undef) then some [.undef] else none:=rfl
@[go_sem] theorem QJ7(z n)(r):YR (.imm z n r)=bif D.KK (.imm z n r) then some [.imm z n r] else none:=rfl
@[go_sem] theorem QJ8(c):YR (.ip c)=bif D.KK (.ip c) then some [.ip c] else none:=rfl
@[go_sem] theorem QJ9(l g o n):YR (.ref l g o n)=bif D.KK (.ref l g o n) then some [.ref l g o n] else none:=rfl
@[go_sem] theorem QKa(l g i j):YR (.ptr l g i j)=bif D.KK (.ptr l g i j) then some [.ptr l g i j] else none:=rfl
@[go_sem] theorem QKb(l g):YR (.mref l g)=bif D.KK (.mref l g) then some [.mref l g] else none:=rfl
@[go_sem] theorem QKc(f)(n)(c):YR (.clo f n c)=bif D.KK (.clo f n c) then some [.clo f n c] else none:=rfl
@[go_sem] theorem QKd(c:List D):YR (.agg c)=bif c.all D.KK then some c else none:=rfl
@[go_sem] theorem QKe(c):YR (.tup c)=bif D.KK (.tup c) then some [.tup c] else none:=rfl
@[go_sem] theorem QKf(d')(v):Yd d' (.raw v)=(d'=.raw v):=rfl
@[go_sem] theorem QKg(d')  : Yd d' (.nil)=(d'=.nil):=rfl
@[go_sem] theorem QKh(d')  : Yd d' (.undef)=(d'=.undef):=rfl
@[go_sem] theorem QKi(z' n' z n)(r' r):Yd (.imm z' n' r') (.imm z n r)=(z'=z/\n'=n/\∀i,i<n->r' i=r i):=rfl
@[go_sem] theorem QKj(d')(c):Yd d' (.ip c)=(d'=.ip c):=rfl
@[go_sem] theorem QKk(d')(l g o n):Yd d' (.ref l g o n)=(d'=.ref l g o n):=rfl
@[go_sem] theorem QKl(d')(l g i j):Yd d' (.ptr l g i j)=(d'=.ptr l g i j):=rfl
@[go_sem] theorem QKm(d')(l g):Yd d' (.mref l g)=(d'=.mref l g):=rfl
@[go_sem] theorem QKn(d')(f)(n)(c):Yd d' (.clo f n c)=(d'=.clo f n c):=rfl
@[go_sem] theorem QKo(d')(c):Yd d' (.agg c)=(d'=.agg c):=rfl
@[go_sem] theorem QKp(d')(c):Yd d' (.tup c)=(d'=.tup c):=rfl
end Go.Fg
namespace Go.Fg
open Go.RowKit (Below)
def pos(l:Nat):List Nat->Nat
 | []=>0
 | k::r=>bif Nat.beq k l then 0 else pos l r+1
mutual
def D.Yw(Qr:List Nat):D->D
 | .ref l g off len=>.ref (pos l Qr) g off len
 | .ptr l g i j=>.ptr (pos l Qr) g i j
 | .mref l g=>.mref (pos l Qr) g
 | .clo f nf cs=>.clo f nf (xm Qr cs)
 | .agg cs=>.agg (xm Qr cs)
 | .tup cs=>.tup (xm Qr cs)
 | d=>d
def xm(Qr:List Nat):List D->List D
 | []=>[]
 | c::cs=>c.Yw Qr::xm Qr cs
end
mutual
def D.CX(Qr:List Nat):D->Bool
 | .ref l _ _ _=>Vi l Qr
 | .ptr l _ _ _=>Vi l Qr
 | .mref l _=>Vi l Qr
 | .clo _ _ cs=>CY Qr cs
 | .agg cs=>CY Qr cs
 | .tup cs=>CY Qr cs
 | _=>true
def CY(Qr:List Nat):List D->Bool
 | []=>true
 | c::cs=>c.CX Qr&&CY Qr cs
end
def Na{l}:∀{Qr:List Nat},Vi l Qr=true->Qr[pos l Qr]? = some l
 | [],h=>by cases h
 | k::r,h=>by
  simp only[pos];by_cases e:k=l
  ·subst e;simp
  ·have h1:Nat.beq k l=false:=by rw[<- qb,Wp];exact e
   have h2:Nat.beq l k=false:=by rw[<- qb,Wp];exact λx=>e x.symm
   simp only[Vi,h2,OK]at h;simp[h1,Na h]
def vU(Qr):∀cs:List D,(xm Qr cs).length=cs.length
 | []=>rfl
 | _::cs=>by simp[xm,vU Qr cs]
def Gh(Qr):∀(cs:List D) (i:Nat),i<cs.length->nth (xm Qr cs) i=(nth cs i).Yw Qr
 | [],i,h=>by simp at h
 | c::cs,0,_=>by simp[xm,nth]
 | c::cs,i+1,h=>by
  have:=Gh Qr cs i (by simpa using h);simpa[xm,nth] using this
def PE{Qr}:∀{cs:List D},CY Qr cs=true->∀i,i<cs.length->(nth cs i).CX Qr=true
 | [],_,i,h=>by simp at h
 | d::r,hf,i,h=>by
  simp only[CY,Z9]at hf;cases i with
  | zero=>exact hf.1
  | succ i=>have:=PE hf.2 i (by simpa using h);simpa[nth] using this
def Ob.Yw(Qr:List Nat)(o:Ob):Ob:=⟨o.kd,o.gen,o.sz,o.n,λi=>xm Qr (o.row i)⟩
def qU(h:List Ob):List Nat->List Ob
 | []=>[]
 | i::r=>match h[i]? with
  | some o=>o::qU h r
  | none=>[]
def vV(pl:List Pl):List Nat->List Pl
 | []=>[]
 | i::r=>match pl[i]? with
  | some o=>o::vV pl r
  | none=>[]
def WU(n:Nat):List Nat->Bool
 | []=>true
 | i::r=>Nat.blt i n&&WU n r
def CZ:List Nat->Bool
 | []=>true
 | i::r=>!Vi i r&&CZ r
def QfR{n}:∀{l:List Nat},WU n l=true->∀i∈l,i<n
 | [],_,i,h=>by cases h
 | k::r,h,i,hi=>by
  simp only[WU,Z9,xU]at h;rcases QM.1 hi with e|e
  ·subst e;exact h.1
  ·exact QfR h.2 i e
def QfS:∀{l:List Nat},CZ l=true->∀(i j x:Nat),l[i]? = some x->l[j]? = some x->i=j
 | [],_,i,j,x,h,_=>by simp at h
 | k::r,h,i,j,x,h1,h2=>by
  simp only[CZ,Z9,jL]at h;have hk:k ∉ r:=λhm=>by rw[ya.2 hm]at h;cases h.1
  cases i with
  | zero=>
   simp at h1;subst h1;cases j with
   | zero=>rfl
   | succ j=>simp at h2;exact absurd (OQ h2) hk
  | succ i=>
   simp at h1;cases j with
   | zero=>simp at h2;subst h2;exact absurd (OQ h1) hk
   | succ j=>simp at h2;rw[QfS h.2 i j x h1 h2]
def Nb{h:List Ob}:∀{Qr:List Nat},WU h.length Qr=true->∀(i l:Nat),Qr[i]? = some l->(qU h Qr)[i]? = h[l]?
 | [],_,i,l,e=>by simp at e
 | k::r,hb,i,l,e=>by
  simp only[WU,Z9,xU]at hb;simp only[qU,QW hb.1];cases i with
  | zero=>simp at e;subst e;simp[QW hb.1]
  | succ i=>simp at e;simpa using Nb hb.2 i l e
def Da{h:List Pl}:∀{Qr:List Nat},WU h.length Qr=true->∀(i l:Nat),Qr[i]? = some l->(vV h Qr)[i]? = h[l]?
 | [],_,i,l,e=>by simp at e
 | k::r,hb,i,l,e=>by
  simp only[WU,Z9,xU]at hb;simp only[vV,QW hb.1];cases i with
  | zero=>simp at e;subst e;simp[QW hb.1]
  | succ i=>simp at e;simpa using Da hb.2 i l e
def gU{h:List Ob}:∀{Qr:List Nat},WU h.length Qr=true->(qU h Qr).length=Qr.length
 | [],_=>rfl
 | k::r,hb=>by
  simp only[WU,Z9,xU]at hb;simp[qU,QW hb.1,gU hb.2]
def PF{h:List Pl}:∀{Qr:List Nat},WU h.length Qr=true->(vV h Qr).length=Qr.length
 | [],_=>rfl
 | k::r,hb=>by
  simp only[WU,Z9,xU]at hb;simp[vV,QW hb.1,PF hb.2]
def QE.Qr{Z Z'}{h:List Ob}{pl:List Pl}{w}{Qr}(hz:∀b,free Z pl b->Z' b)(hl:pl.length=h.length)(hb:WU h.length Qr=true){d:D}{v}(r:QE Z h pl w d v)(hk:d.CX Qr=true):
  QE Z' ((qU h Qr).map (Ob.Yw Qr)) (vV pl Qr) w (d.Yw Qr) v:=by
 have qV:WU pl.length Qr=true:=by rw[hl];exact hb
 have qR:∀b,free Z pl b->free Z' (vV pl Qr) b:=λb hf=>⟨hz b hf,λl q e=>by
  have Qc:l<Qr.length:=by rw[<- PF qV];exact Wq e
  rw[Da qV l (Qr[l]) (QW Qc)]at e;exact hf.2 _ q e⟩
 have ZP:∀(d:D) (v:Value),Cl (free Z pl) w d v->QE Z' ((qU h Qr).map (Ob.Yw Qr)) (vV pl Qr) w (d.Yw Qr) v:=by
  intro d v hc;have x6:=hc.mono (N':=free Z' (vV pl Qr)) (w':=w) (λb hb _=>⟨qR b hb,rfl⟩);clear hc;induction x6 with
  | raw v=>exact .cl _ _ (.raw v)
  | undef v=>exact .cl _ _ (.undef v)
  | nil a=>exact .cl _ _ (.nil a)
  | imm sz n row a cap b o vs ha hl hs hc hr ih=>exact .cl _ _ (.imm sz n row a cap b o vs ha hl hs hc hr)
  | ip cells b o vs hc hr ih=>exact .cl _ _ (.ip cells b o vs hc hr)
  | clo f nf cs vs hl hr ih=>exact .clo f nf _ vs (by rw[vU];exact hl) (λi hi=>by rw[vU]at hi;rw[Gh _ _ _ hi];exact ih i hi)
  | agg cs vs hl hr ih=>exact .agg _ vs (by rw[vU];exact hl) (λi hi=>by rw[vU]at hi;rw[Gh _ _ _ hi];exact ih i hi)
  | tup cs vs hl hr ih=>exact .tup _ vs (by rw[vU];exact hl) (λi hi=>by rw[vU]at hi;rw[Gh _ _ _ hi];exact ih i hi)
 induction r with
 | cl d v hc=>exact ZP d v hc
 | ref l g off len o p a cap ho hp Ah hg hs=>
  have hm:Vi l Qr=true:=by simpa[D.CX] using hk
  exact .ref _ g off len (o.Yw Qr) p a cap (by rw[KG,Nb hb _ l (Na hm),ho];rfl) (by rw[Da qV _ l (Na hm),hp]) Ah hg hs
 | ptr l g i j o p a ho hp Ah hg hs=>
  have hm:Vi l Qr=true:=by simpa[D.CX] using hk
  exact .ptr _ g i j (o.Yw Qr) p a (by rw[KG,Nb hb _ l (Na hm),ho];rfl) (by rw[Da qV _ l (Na hm),hp]) Ah hg hs
 | mref l g o p b ho hp Ah hg hs=>
  have hm:Vi l Qr=true:=by simpa[D.CX] using hk
  exact .mref _ g (o.Yw Qr) p b (by rw[KG,Nb hb _ l (Na hm),ho];rfl) (by rw[Da qV _ l (Na hm),hp]) Ah hg hs
 | clo f nf cs vs hl hr ih=>exact .clo f nf _ vs (by rw[vU];exact hl) λi hi=>by rw[vU]at hi;rw[Gh _ _ _ hi];exact ih i hi (PE (by simpa[D.CX] using hk) i hi)
 | agg cs vs hl hr ih=>exact .agg _ vs (by rw[vU];exact hl) λi hi=>by rw[vU]at hi;rw[Gh _ _ _ hi];exact ih i hi (PE (by simpa[D.CX] using hk) i hi)
 | tup cs vs hl hr ih=>exact .tup _ vs (by rw[vU];exact hl) λi hi=>by rw[vU]at hi;rw[Gh _ _ _ hi];exact ih i hi (PE (by simpa[D.CX] using hk) i hi)
def Nf(Qr:List Nat):List Ob->Prop
 | []=>True
 | o::r=>(∀i,i<o.n->CY Qr (o.row i)=true)/\Nf Qr r
def QfT{Qr}:∀{h:List Ob},Nf Qr h->∀(l:Nat) (o:Ob),h[l]? = some o->∀i,i<o.n->CY Qr (o.row i)=true
 | [],_,l,o,e=>by simp at e
 | o::r,h,l,u,e=>by
  cases l with
  | zero=>simp at e;subst e;exact h.1
  | succ l=>simp at e;exact QfT h.2 l u e
def Zv.Qr{Z Z'}{base}{h:List Ob}{pl}{w}{Qr}(R:Zv Z base h pl w)(hz:∀b,free Z pl b->Z' b)(hb:WU h.length Qr=true)(hd:CZ Qr=true)(h2:Nf Qr (qU h Qr)):
  Zv Z' base ((qU h Qr).map (Ob.Yw Qr)) (vV pl Qr) w:=by
 have qV:WU pl.length Qr=true:=by rw[R.len];exact hb
 have Zk:∀(i:Nat) (p:Pl),(vV pl Qr)[i]? = some p->∃l,Qr[i]? = some l/\pl[l]? = some p:=λi p e=>by
  have Qc:i<Qr.length:=by rw[<- PF qV];exact Wq e
  exact⟨Qr[i],QW Qc,by rw[<- Da qV i _ (QW Qc)];exact e⟩
 have Zt:∀(i:Nat) (o:Ob),((qU h Qr).map (Ob.Yw Qr))[i]? = some o->∃l u,Qr[i]? = some l/\h[l]? = some u/\o=u.Yw Qr/\(qU h Qr)[i]? = some u:=λi o e=>by
  rw[KG,Xv]at e;obtain⟨u,hu,rfl⟩:=e;have Qc:i<Qr.length:=by rw[<- gU hb];exact Kr hu
  exact⟨Qr[i],u,QW Qc,by rw[<- Nb hb i _ (QW Qc)];exact hu,rfl,hu⟩
 refine⟨by rw[PF qV,Kl,gU hb],λi i' b q q' e1 e2=>?_,λi o ho hp=>?_,λi o b q ho hp=>?_⟩
 ·obtain⟨l,s1,p1⟩:=Zk _ _ e1;obtain⟨l',s2,p2⟩:=Zk _ _ e2;have:=R.inj l l' b q q' p1 p2;subst this;exact QfS hd i i' l s1 s2
 ·obtain⟨l,u,s1,hu,rfl,_⟩:=Zt _ _ ho;obtain⟨l',s2,p2⟩:=Zk _ _ hp;rw[s1]at s2;cases s2;exact R.VM l u hu p2
 ·obtain⟨l,u,s1,hu,rfl,An⟩:=Zt _ _ ho;obtain⟨l',s2,p2⟩:=Zk _ _ hp;rw[s1]at s2;cases s2;obtain⟨g1,x⟩:=R.at_ l u b q hu p2;refine⟨g1,x.to rfl rfl rfl rfl (λk _=>vU _ _) λk j v hk hj hr=>?_⟩;show QE _ _ _ _ (nth (xm Qr (u.row k)) j) v;rw[Gh _ _ _ hj];exact hr.Qr hz R.len hb (PE (QfT h2 i u An k hk) j hj)
def QfU{pl:List Pl}{Qr}(hb:WU pl.length Qr=true){b}(h:XN pl b):XN (vV pl Qr) b:=λl q e=>by
 have Qc:l<Qr.length:=by rw[<- PF hb];exact Wq e
 rw[Da hb l (Qr[l]) (QW Qc)]at e;exact h _ q e
def QfV(Qr:List Nat)(R:D->List Ob->Prop)(d:D)(h:List Ob):Prop:=d.CX Qr=true/\WU h.length Qr=true/\Nf Qr (qU h Qr)/\R (d.Yw Qr) ((qU h Qr).map (Ob.Yw Qr))
def Uw:Nat->Nat->List Nat->Bool
 | 0,_,_=>true
 | _+1,_,[]=>false
 | m+1,i,k::r=>Nat.beq k i&&Uw m (i+1) r
def QfW:∀{m i:Nat} {Qr:List Nat},Uw m i Qr=true->∀l,l<m->Qr[l]? = some (i+l)
 | 0,_,_,_,l,hl=>by omega
 | m+1,i,[],h,_,_=>by cases h
 | m+1,i,k::r,h,l,hl=>by
  simp only[Uw,Z9]at h;obtain rfl:=Tz h.1;cases l with
  | zero=>simp
  | succ l=>rw[List.getElem?_cons_succ,QfW h.2 l (by omega)];congr 1;omega
def QK.Qr{P}{f}{F:List Ob}{args}{R}(Qr)(hd:CZ Qr=true)(hs:Uw F.length 0 Qr=true)(h:QK P f F args (QfV Qr R)):QK P f F args R:=λZ base w pl vs h1 h2 h3 hl hc=>
 (h Z base w pl vs h1 h2 h3 hl hc).mono λ_ _ ⟨v,d,hh,Qm,k1,⟨a1,a2,a3,a4⟩,k3,k4,k5,k6⟩=>⟨v,d.Yw Qr,_,vV Qm Qr,k1,a4,k3.Qr (λ_ h=>h.1) a2 hd a3,k4.Qr (λ_ h=>h.1) k3.len a2 a1,
  k5.keep (QB _) ⟨λ_ hb=>QfU (by rw[k3.len];exact a2) hb,λl o p hl ho hp=>by
   have e:=QfW hs l hl;rw[JV]at e;exact⟨o.Yw Qr,by rw[KG,Nb a2 l l e,ho];rfl,by rw[Da (by rw[k3.len];exact a2) l l e,hp],rfl,rfl,rfl⟩⟩,k6⟩
attribute [go_sem] QfV pos D.Yw xm D.CX CY Ob.Yw qU WU Nf Vi
mutual
def D.idx(φ:Nat->Nat):D->D
 | .ref l g off len=>.ref (φ l) g off len
 | .ptr l g i j=>.ptr (φ l) g i j
 | .mref l g=>.mref (φ l) g
 | .clo f nf cs=>.clo f nf (BA φ cs)
 | .agg cs=>.agg (BA φ cs)
 | .tup cs=>.tup (BA φ cs)
 | d=>d
def BA(φ:Nat->Nat):List D->List D
 | []=>[]
 | c::cs=>c.idx φ::BA φ cs
end
def yg(φ):∀cs:List D,(BA φ cs).length=cs.length
 | []=>rfl
 | _::cs=>by simp[BA,yg φ cs]
def Im(φ):∀(cs:List D) (i:Nat),i<cs.length->nth (BA φ cs) i=(nth cs i).idx φ
 | [],i,h=>by simp at h
 | c::cs,0,_=>by simp[BA,nth]
 | c::cs,i+1,h=>by
  have:=Im φ cs i (by simpa using h);simpa[BA,nth] using this
def Ob.idx(φ:Nat->Nat)(o:Ob):Ob:=⟨o.kd,o.gen,o.sz,o.n,λi=>BA φ (o.row i)⟩
def QE.idx{Z Z'}{h h'}{pl Qm}{w}(φ)(hf:∀b,free Z pl b->free Z' Qm b)
  (Zt:∀(l:Nat) (o:Ob) (p:Pl),h[l]? = some o->pl[l]? = some p->∃o',h'[φ l]? = some o'/\Qm[φ l]? = some p/\o'.gen=o.gen/\o'.sz=o.sz/\o'.kd.ty=o.kd.ty) {d:D} {v:Value} (r:QE Z h pl w d v):QE Z' h' Qm w (d.idx φ) v:=by
 have ZP:∀(d:D) (v:Value),Cl (free Z pl) w d v->QE Z' h' Qm w (d.idx φ) v:=by
  intro d v hc;have x6:=hc.mono (N':=free Z' Qm) (w':=w) (λb hb _=>⟨hf b hb,rfl⟩);clear hc;induction x6 with
  | raw v=>exact .cl _ _ (.raw v)
  | undef v=>exact .cl _ _ (.undef v)
  | nil a=>exact .cl _ _ (.nil a)
  | imm sz n row a cap b o vs ha hl hs hc hr ih=>exact .cl _ _ (.imm sz n row a cap b o vs ha hl hs hc hr)
  | ip cells b o vs hc hr ih=>exact .cl _ _ (.ip cells b o vs hc hr)
  | clo f nf cs vs hl hr ih=>exact .clo f nf _ vs (by rw[yg];exact hl) (λi hi=>by rw[yg]at hi;rw[Im _ _ _ hi];exact ih i hi)
  | agg cs vs hl hr ih=>exact .agg _ vs (by rw[yg];exact hl) (λi hi=>by rw[yg]at hi;rw[Im _ _ _ hi];exact ih i hi)
  | tup cs vs hl hr ih=>exact .tup _ vs (by rw[yg];exact hl) (λi hi=>by rw[yg]at hi;rw[Im _ _ _ hi];exact ih i hi)
 induction r with
 | cl d v hc=>exact ZP d v hc
 | ref l g off len o p a cap ho hp hk hg hs=>
  obtain⟨o',h1,h2,h3,h4,h5⟩:=Zt l o p ho hp;exact .ref _ g off len o' p a cap h1 h2 (by rw[h5];exact hk) (by rw[h3];exact hg) (by rw[h3,h4];exact hs)
 | ptr l g i j o p a ho hp hk hg hs=>
  obtain⟨o',h1,h2,h3,h4,h5⟩:=Zt l o p ho hp;exact .ptr _ g i j o' p a h1 h2 (by rw[h5];exact hk) (by rw[h3];exact hg) (by rw[h3,h4];exact hs)
 | mref l g o p b ho hp hk hg hs=>
  obtain⟨o',h1,h2,h3,h4,h5⟩:=Zt l o p ho hp;exact .mref _ g o' p b h1 h2 (by rw[h5];exact hk) (by rw[h3];exact hg) (by rw[h3];exact hs)
 | clo f nf cs vs hl hr ih=>exact .clo f nf _ vs (by rw[yg];exact hl) (λi hi=>by rw[yg]at hi;rw[Im _ _ _ hi];exact ih i hi)
 | agg cs vs hl hr ih=>exact .agg _ vs (by rw[yg];exact hl) (λi hi=>by rw[yg]at hi;rw[Im _ _ _ hi];exact ih i hi)
 | tup cs vs hl hr ih=>exact .tup _ vs (by rw[yg];exact hl) (λi hi=>by rw[yg]at hi;rw[Im _ _ _ hi];exact ih i hi)
def XC(n:Nat):List Nat->Nat->Nat
 | [],i=>n+i
 | k::_,0=>k
 | _::r,i+1=>XC n r i
def Yx{α:Type}(h:List α):List Nat->List α->List α
 | [],xs=>h++xs
 | k::r,x::xs=>Yx (h.set k x) r xs
 | _::_,[]=>h
def gV{n}:∀{Qr:List Nat} {i l:Nat},Qr[i]? = some l->XC n Qr i=l
 | [],i,l,h=>by simp at h
 | k::r,0,l,h=>by simp at h;simp[XC,h]
 | k::r,i+1,l,h=>by simp at h;simp[XC,gV h]
def QfX{n}:∀{Qr:List Nat} {i:Nat},XC n Qr (Qr.length+i)=n+i
 | [],i=>by simp[XC]
 | k::r,i=>by
  rw[show (k::r).length+i=(r.length+i)+1 by simp;omega];simp only[XC];exact QfX
def sI{α:Type}:∀{Qr:List Nat} {h xs:List α},WU h.length Qr=true->CZ Qr=true->Qr.length<=xs.length->∀(i:Nat),i<xs.length->(Yx h Qr xs)[XC h.length Qr i]? = xs[i]?
 | [],h,xs,_,_,_,i,hi=>by
  simp only[Yx,XC];rw[Kf (by omega)];congr 1;omega
 | k::r,h,[],_,_,hl,i,hi=>by simp at hi
 | k::r,h,x::xs,hb,hd,hl,i,hi=>by
  simp only[WU,Z9,xU]at hb;simp only[CZ,Z9,jL]at hd;simp only[Yx];have hlen:(h.set k x).length=h.length:=by simp
  cases i with
  | zero=>
   have hk:k ∉ r:=λhm=>by rw[ya.2 hm]at hd;cases hd.1
   have key:∀(r:List Nat) (h' xs:List α),k ∉ r->k<h'.length->(Yx h' r xs)[k]? = h'[k]? := by
    intro r;induction r with
    | nil=>intro h' xs _ Qc;simp only[Yx];rw[JD Qc]
    | cons j r ih=>
     intro h' xs hm Qc;cases xs with
     | nil=>rfl
     | cons y ys=>
      simp only[Yx];rw[ih (h'.set j y) ys (λhh=>hm (KI _ hh)) (by simpa using Qc),JJ (λe=>hm (by rw[e];exact Vn))]
   simp only[XC];rw[key r (h.set k x) xs hk (by simpa using hb.1)];simp[hb.1]
  | succ i=>
   simp only[XC];rw[<- hlen];exact sI (by rw[hlen];exact hb.2) hd.2 (by simpa using hl) i (by simpa using hi)
def PG{α:Type}:∀{Qr:List Nat} {h xs:List α} {l:Nat},l<h.length->l ∉ Qr->(Yx h Qr xs)[l]? = h[l]?
 | [],h,xs,l,hl,_=>by simp only[Yx];rw[JD hl]
 | k::r,h,[],l,hl,_=>rfl
 | k::r,h,x::xs,l,hl,hm=>by
  simp only[Yx];rw[PG (by simpa using hl) (λhh=>hm (KI _ hh)),JJ (λe=>hm (by rw[e];exact Vn))]
def gW{α:Type}:∀{Qr:List Nat} {h xs:List α},Qr.length<=xs.length->(Yx h Qr xs).length=h.length+(xs.length - Qr.length)
 | [],h,xs,_=>by simp[Yx]
 | k::r,h,[],hl=>by simp at hl
 | k::r,h,x::xs,hl=>by
  simp only[Yx];rw[gW (by simpa using hl)];simp
def Qrn{α:Type}{Qr:List Nat}{h xs:List α}(hb:WU h.length Qr=true)(hl:Qr.length<=xs.length){l}(h1:l<h.length+(xs.length - Qr.length)):
  (∃i,i<xs.length/\l=XC h.length Qr i)\/(l<h.length/\l ∉ Qr):=by
 by_cases Qc:l<h.length
 ·by_cases hm:l∈Qr
  ·obtain⟨i,hi,e⟩:=y9 hm;exact .inl ⟨i,by omega,(gV (by rw[QW hi,e])).symm⟩
  ·exact .inr ⟨Qc,hm⟩
 ·refine .inl ⟨Qr.length+(l - h.length),by omega,?_⟩;rw[QfX];omega
section
variable {P:Program}{base nt:Nat}{w0:Start}{Q:Exit->St->Prop}
def vW(h:List Ob)(Qr:List Nat)(h':List Ob):List Ob:=Yx h Qr (h'.map (Ob.idx (XC h.length Qr)))
def Qro{Z}{s:St}{pl}{w w':World}{Qr}(R:Zv Z base s.h pl w)(Zd:base<=w.heap.size)(hz:∀b,w.heap.size<=b->Z b)(hb:WU s.h.length Qr=true)(hd:CZ Qr=true)
  {h':List Ob} {Qm:List Pl} {d:D} {v:Value} {F:List Ob} (hF:F.length=Qr.length) (hFk:∀(i:Nat) (o u:Ob),F[i]? = some o->(∃l,Qr[i]? = some l/\s.h[l]? = some u)->o.gen=u.gen/\o.sz=u.sz/\o.kd.ty=u.kd.ty)
  (O':Zv (λb=>Z b/\∀l q,pl[l]? = some (some (b,q))->l∈Qr) base h' Qm w') (V':QE (λb=>Z b/\∀l q,pl[l]? = some (some (b,q))->l∈Qr) h' Qm w' d v)
  (T:Tr F (vV pl Qr) w h' Qm w') (B:Below base w w') :
  Tr s.h pl w (vW s.h Qr h') (Yx pl Qr Qm) w'/\Zv Z base (vW s.h Qr h') (Yx pl Qr Qm) w'/\QE Z (vW s.h Qr h') (Yx pl Qr Qm) w' (d.idx (XC s.h.length Qr)) v:=by
 have qV:WU pl.length Qr=true:=by rw[R.len];exact hb
 have sJ:Qm.length=h'.length:=O'.len;have PH:∀(i l:Nat),Qr[i]? = some l->∃u p o' p',s.h[l]? = some u/\pl[l]? = some p/\h'[i]? = some o'/\Qm[i]? = some p'/\u.gen<=o'.gen/\o'.kd.ty=u.kd.ty/\(o'.gen=u.gen->o'.sz=u.sz/\p'=p):=by
  intro i l e;have hi:i<Qr.length:=(Xd.1 e).1;have hl:l<s.h.length:=QfR hb l (OQ e);have e1:F[i]? = some (F[i]'(by omega)):=QW _;have e2:s.h[l]? = some s.h[l]:=QW hl;have Jx:l<pl.length:=by rw[R.len];exact hl
  have e3:pl[l]? = some pl[l]:=QW Jx;obtain⟨k1,k2,k3⟩:=hFk i _ _ e1 ⟨l,e,e2⟩;obtain⟨o',p',t1,t2,t3,t4,t5⟩:=T.obj i _ pl[l] e1 (by rw[Da qV i l e,e3]);exact⟨_,_,o',p',e2,e3,t1,t2,by omega,by rw[t4,k3],λx=>by obtain⟨y,z⟩:=t5 (by omega);exact⟨by rw[y,k2],z⟩⟩
 have yh:Qr.length<=h'.length:=by
  rcases Nat.eq_zero_or_pos Qr.length with h0|h0
  ·omega
  ·obtain⟨_,_,o',_,_,_,h3,_⟩:=PH (Qr.length - 1) _ (QW (by omega));have:=Kr h3;omega
 have gX:Qr.length<=Qm.length:=by omega
 have hN:s.h.length=pl.length:=R.len.symm;have gY:∀i,i<Qm.length->(Yx pl Qr Qm)[XC s.h.length Qr i]? = Qm[i]? := λi hi=>by rw[hN];exact sI qV hd gX i hi
 have Ux:∀i,i<h'.length->(vW s.h Qr h')[XC s.h.length Qr i]? = (h'[i]?).map (Ob.idx (XC s.h.length Qr)):=λi hi=>by
  unfold vW;rw[sI hb hd (by simpa using yh) i (by simpa using hi),KG]
 have other:∀(l b q:Nat),l ∉ Qr->pl[l]? = some (some (b,q))->XN Qm b/\w'.heap[b]? = w.heap[b]? := λl b q hm e=>by
  refine T.KE b (λi q' e'=>?_) (R.lt e).1;have hi:i<Qr.length:=by rw[<- PF qV];exact Wq e'
  have e2:Qr[i]? = some Qr[i]:=QW hi;rw[Da qV i _ e2]at e';have:=R.inj _ _ _ _ _ e e';exact hm (by rw[this];exact qK hi)
 have PI:∀(l:Nat) (p:Pl),(Yx pl Qr Qm)[l]? = some p->(∃i,i<Qm.length/\l=XC s.h.length Qr i/\Qm[i]? = some p)\/(l<pl.length/\l ∉ Qr/\pl[l]? = some p):=λl p e=>by
  have Qc:=Wq e;rw[gW gX]at Qc;rcases Qrn qV gX Qc with ⟨i,hi,rfl⟩|⟨h1,h2⟩
  ·rw[hN]at gY ⊢;exact .inl ⟨i,hi,rfl,by rw[<- gY i hi];exact e⟩
  ·exact .inr ⟨h1,h2,by rw[PG h1 h2]at e;exact e⟩
 have Pq:∀b,free (λb=>Z b/\∀l q,pl[l]? = some (some (b,q))->l∈Qr) Qm b->free Z (Yx pl Qr Qm) b:=λb hf=>⟨hf.1.1,λl q e=>by
  rcases PI l _ e with ⟨i,_,_,e2⟩|⟨_,h2,e2⟩
  ·exact hf.2 i q e2
  ·exact h2 (hf.1.2 l q e2)⟩
 have Zt:∀(l:Nat) (o:Ob) (p:Pl),h'[l]? = some o->Qm[l]? = some p->∃o',(vW s.h Qr h')[XC s.h.length Qr l]? = some o'/\(Yx pl Qr Qm)[XC s.h.length Qr l]? = some p/\o'.gen=o.gen/\o'.sz=o.sz/\o'.kd.ty=o.kd.ty:=λl o p ho hp=>
  ⟨o.idx (XC s.h.length Qr),by rw[Ux l (Kr ho),ho];rfl,by rw[gY l (Wq hp),hp],rfl,rfl,rfl⟩
 have T2:Tr s.h pl w (vW s.h Qr h') (Yx pl Qr Qm) w':=by
  refine⟨λb hbw Qc=>?_,λl o p ho hp=>?_,λl o o' b q ho ZT hg hp c el hc=>?_⟩
  ·obtain⟨h1,h2⟩:=T.KE b (QfU qV hbw) Qc;refine⟨λl q e=>?_,h2⟩;rcases PI l _ e with ⟨i,_,_,e2⟩|⟨_,_,e2⟩
   ·exact h1 i q e2
   ·exact hbw l q e2
  ·by_cases hm:l∈Qr
   ·obtain⟨i,hi,e⟩:=y9 hm;have e2:Qr[i]? = some l:=by rw[QW hi,e]
    obtain⟨u,p1,o',p',k1,k2,k3,k4,k5,k6,k7⟩:=PH i l e2;rw[ho]at k1;cases k1;rw[hp]at k2;cases k2;have Gi:XC s.h.length Qr i=l:=gV e2;refine⟨o'.idx (XC s.h.length Qr),p',by rw[<- Gi,Ux i (Kr k3),k3];rfl,by rw[<- Gi,gY i (Wq k4),k4],k5,k6,k7⟩
   ·exact⟨o,p,by unfold vW;rw[PG (Kr ho) hm];exact ho,by rw[PG (Wq hp) hm];exact hp,QB _,rfl,λ_=>⟨rfl,rfl⟩⟩
  ·by_cases hm:l∈Qr
   ·obtain⟨i,hi,e⟩:=y9 hm;have e2:Qr[i]? = some l:=by rw[QW hi,e]
    obtain⟨u,p1,o1,p',k1,k2,k3,k4,k5,k6,k7⟩:=PH i l e2;rw[ho]at k1;cases k1;have Gi:XC s.h.length Qr i=l:=gV e2;rw[<- Gi,Ux i (Kr k3),k3]at ZT;cases ZT;have e1:F[i]? = some (F[i]'(by omega)):=QW _;obtain⟨f1,f2,f3⟩:=hFk i _ _ e1 ⟨l,e2,ho⟩;have hg:o1.gen=o.gen:=hg;exact T.shape i _ o1 b q e1 k3 (by omega) (by rw[Da qV i l e2,hp]) c el hc
   ·exact⟨c,by rw[(other l b q hm hp).2];exact hc,rfl⟩
 refine⟨T2,⟨?_,λl l' b q q' e1 e2=>?_,λl o ho hp=>?_,λl o b q ho hp=>?_⟩,V'.idx _ Pq Zt⟩
 ·unfold vW;rw[gW gX,gW (by simpa using yh)];simp[R.len,sJ]
 ·rcases PI l _ e1 with ⟨i,hi,rfl,e3⟩|⟨h1,h2,e3⟩<;>rcases PI l' _ e2 with ⟨j,hj,rfl,e4⟩|⟨h3,h4,e4⟩
  ·rw[O'.inj i j b q q' e3 e4]
  ·exact absurd e3 ((other l' b q' h4 e4).1 i q)
  ·exact absurd e4 ((other l b q h2 e3).1 j q')
  ·exact R.inj l l' b q q' e3 e4
 ·rcases PI l _ hp with ⟨i,hi,rfl,e3⟩|⟨h1,h2,e3⟩
  ·have JQ:i<h'.length:=by omega
   rw[Ux i JQ,QW JQ]at ho;cases ho;exact O'.VM i h'[i] (QW JQ) e3
  ·unfold vW at ho;rw[PG (by omega) h2]at ho;exact R.VM l o ho e3
 ·rcases PI l _ hp with ⟨i,hi,rfl,e3⟩|⟨h1,h2,e3⟩
  ·have JQ:i<h'.length:=by omega
   rw[Ux i JQ,QW JQ]at ho;cases ho;obtain⟨g1,x⟩:=O'.at_ i _ b q (QW JQ) e3;refine⟨g1,x.to rfl rfl rfl rfl (λk _=>yg _ _) λk j v hk hj hr=>?_⟩;show QE _ _ _ _ (nth (BA _ (h'[i].row k)) j) v;rw[Im _ _ _ hj];exact hr.idx _ Pq Zt
  ·unfold vW at ho;rw[PG (by omega) h2]at ho;obtain⟨g1,x⟩:=R.at_ l o b q ho e3;exact⟨g1,x.to rfl rfl rfl (other l b q h2 e3).2 (λ_ _=>rfl) λi j v _ _ hr=>hr.tr T2⟩
def Qrp(Zd:base<=w0.w.heap.size){o:Oper}{s}{x}{args}{Jm:Array TypeId}{f}{nf}{QI}(hf:Qo P f)(ho:o.op=.call ⟨.value x,args,Jm⟩)
  (hx:KM (Qt s.fr x)=some (f,nf,QI)) (Qr:List Nat) (hb:WU s.h.length Qr=true) (hd:CZ Qr=true) (sK:Nf Qr (qU s.h Qr)) (Gj:CY Qr (JT nf QI (args.toList.map (Qt s.fr)))=true)
  {R:D->List Ob->Prop} (hF:QK P f ((qU s.h Qr).map (Ob.Yw Qr)) (xm Qr (JT nf QI (args.toList.map (Qt s.fr)))) R)
  (ht:ZQ nt o.dst=true) {Z:Nat->Prop} (z:TZ w0 Z) (pl:List Pl) (a:Act) (w:World) (r:Rel Z base nt s pl a w) (b:Vp Z base w0 s.h pl w) (Q':Exit->Act->World->Prop) :
  o.wp P a w (λa' w'=>(Qr=[]->Ext w w')/\∃d h Qm,R d h/\Rel Z base nt ⟨ZC s.fr o.dst (d.idx (XC s.h.length Qr)),vW s.h Qr h⟩ Qm a' w'/\Vp Z base w0 (vW s.h Qr h) Qm w'/\Tr s.h pl w (vW s.h Qr h) Qm w'/\∃v,a'=a.put o.dst v) Q':=by
 obtain⟨vs,hv,xk,F7⟩:=Uf (r.eval x) hx;have jm:base<=w.heap.size:=KZ Zd b.1.size;have hzw:∀b,w.heap.size<=b->Z b:=b.2.2.new;have qV:WU pl.length Qr=true:=by rw[r.o.len];exact hb
 have Ac:∀b,free Z pl b->(Z b/\∀l q,pl[l]? = some (some (b,q))->l∈Qr):=λk hk=>⟨hk.1,λl q e=>absurd e (hk.2 l q)⟩;obtain⟨q1,KS⟩:=Ug (r:=λd v=>QE Z s.h pl w d v) (nf:=nf) xk F7 (us:=args.toList.map a.eval) (args:=args.toList.map (Qt s.fr)) (by simp) (λi hi=>by
  have JQ:i<args.toList.length:=by simpa using hi
  simp only[nth,Zb,Ze,KG];rw[QW JQ];exact r.eval _)
 have hc:=hF (λb=>Z b/\∀l q,pl[l]? = some (some (b,q))->l∈Qr) base w (vV pl Qr) (JT nf vs (args.toList.map a.eval)) jm
  (λk hk=>⟨hzw k hk,λl q e=>by have:=(r.o.lt e).1;omega⟩) (r.o.Qr Ac hb hd sK) (by rw[vU];exact q1) (λi hi=>by
   rw[vU]at hi;rw[Gh _ _ _ hi];exact(KS i hi).Qr Ac r.o.len hb (PE Gj i hi))
 unfold Oper.wp;rw[Uh hf ho hv w];simp only[Oper.upon_enter];refine hc.mono λe w' he=>?_;obtain⟨v,d,h',Qm,rfl,hR,hO,hV,hT,hB⟩:=he;obtain⟨j1,j2,j3⟩:=Qro r.o jm hzw hb hd (F:=(qU s.h Qr).map (Ob.Yw Qr)) (by rw[Kl,gU hb]) (λi o u e ⟨l,e1,e2⟩=>by
  rw[KG,Nb hb i l e1,e2]at e;cases e;exact⟨rfl,rfl,rfl⟩) hO hV hT hB
 refine⟨λe=>by subst e;exact λk hk=>(hT.KE k (λl q e=>by simp[vV]at e) hk).2,d,h',Yx pl Qr Qm,hR,?_,b.step j1 hB,j1,v,rfl⟩;cases hd:o.dst with
 | none=>exact r.Bg j1 j2 v
 | some t=>rw[hd]at ht;exact r.to j1 j2 (kI ht) j3
def Zu(Zd:base<=w0.w.heap.size)(Qr){k}{dst}{ty:TypeId}{pos}{after}{gd}{r}{s}{x}{args}{Jm:Array TypeId}{f}{nf}{QI}(hf:Qo P f)
  (hx:KM (Qt s.fr x)=some (f,nf,QI)) {F:List Ob} {cs:List D} (Ja:WU s.h.length Qr=true/\CZ Qr=true/\Nf Qr (qU s.h Qr)/\CY Qr (JT nf QI (args.toList.map (Qt s.fr)))=true/\WH (xm Qr (JT nf QI (args.toList.map (Qt s.fr)))) cs/\CP ((qU s.h Qr).map (Ob.Yw Qr)) F)
  {R:D->List Ob->Prop} (hF:QK P f F cs R) (ht:ZQ nt dst=true) (hk:∀d h,R d h->QA P base nt w0 Q (.ops r::k) .normal ⟨ZC s.fr dst (d.idx (XC s.h.length Qr)),vW s.h Qr h⟩) :
  QA P base nt w0 Q (.ops ((⟨dst,.call ⟨.value x,args,Jm⟩,ty,pos,after,gd⟩,none)::r)::k) .normal s:=by
 simp only[QA]at hk ⊢;obtain⟨hb,hd,sK,Gj,he,hle⟩:=Ja;intro Z z pl a w r b;simp only[qn,XB,K6];have hF2:=hF.args he;have hF3:QK P f ((qU s.h Qr).map (Ob.Yw Qr)) (xm Qr (JT nf QI (args.toList.map (Qt s.fr)))) R:=by
  intro Z base w pl vs h1 h2 h3 hl hc;have hw:=Wk.Ih (m:=F.length) (fr:=[]) hle;obtain⟨Qm,r',K⟩:=hw Z base 0 pl { tmps:=#[],defers:=[] } w ⟨rfl,rfl,λt=>.cl _ _ (.undef _),h3⟩;obtain⟨e1,e2⟩:=gl hle;refine(hF2 Z base w pl vs h1 h2 ?_ hl (λi hi=>(hc i hi).Ih hle)).mono λe w' ⟨v,d,h,Qm,k1,k2,k3,k4,k5,k6⟩=>⟨v,d,h,Qm,k1,k2,k3,k4,?_,k6⟩
  ·refine⟨by rw[e1];exact h3.len,h3.inj,λl o' ho hp=>?_,λl o' b q ho hp=>?_⟩
   ·obtain⟨o,g3,g4⟩:=e2 l o' ho;rw[g4.2.2.1];exact h3.VM l o g3 hp
   ·obtain⟨o,g3,g4,g5,g6,g8,g7⟩:=e2 l o' ho;obtain⟨g1,x⟩:=h3.at_ l o b q g3 hp;exact⟨λhr=>g1 (by rw[<- g8.2,hr]),x.to g8.1 g5 g6 rfl (λi hi=>by rw[g7 i hi]) λi j v hi _ hr=>by rw[g7 i hi];exact hr.Ih hle⟩
  ·have key:∀(l:Nat) (o:Ob),((qU s.h Qr).map (Ob.Yw Qr))[l]? = some o->∃o',F[l]? = some o'/\Pm o o':=λl o e=>by
    have:l<F.length:=by rw[e1];exact Kr e
    obtain⟨o2,g3,g4⟩:=e2 l _ (QW this);rw[e]at g3;cases g3;exact⟨_,QW this,g4⟩
   refine⟨k5.KE,λl o p ho hp=>?_,λl o eW b q ho OZ hg hp c el hc=>?_⟩
   ·obtain⟨o1,g1,g2,g3,g4,g5,g6⟩:=key l o ho;obtain⟨o',p',t1,t2,t3,t4,t5⟩:=k5.obj l o1 p g1 hp;exact⟨o',p',t1,t2,by omega,by rw[t4,g5.1],λx=>by obtain⟨y1,y2⟩:=t5 (by omega);exact⟨by rw[y1,g3],y2⟩⟩
   ·obtain⟨o1,g1,g2,g3,g4,g5,g6⟩:=key l o ho;exact k5.shape l o1 eW b q g1 OZ (by omega) hp c el hc
 exact Oper.wp_mono (λa' w' ⟨_,d,h,Qm,hR,r',b',_⟩=>hk d h hR Z z Qm a' w' r' b') (Qrp Zd hf rfl hx Qr hb hd sK Gj hF3 ht z pl a w r b _)
end
attribute [go_sem] D.idx BA Ob.idx XC Yx vW CZ Uw
end Go.Fg
namespace Go.Fg
def gZ(fr:List (Nat × D)):List Nat->List (Nat × D)
 | []=>[]
 | t::r=>(t,get fr t)::gZ fr r
attribute [go_sem] gZ
def VG{G:Type}(R:Nat->Prop)(V:Nat->G->List (Nat × D))(H:Nat->G->List Ob)(rest:List (Nat × D))(i:Nat)(s:St):Prop:=R i/\∃γ,s=⟨V i γ++rest,H i γ⟩
def VG.mk{G:Type}{R}{V}{H}{rest}{i}(γ:G)(h:R i):VG R V H rest i ⟨V i γ++rest,H i γ⟩:=⟨h,γ,rfl⟩
section
variable {P:Program}{base nt:Nat}{w0:Start}{Q:Exit->St->Prop}{k:List Item}
def BB{G:Type}(keep)(R)(V:Nat->G->List (Nat × D))(H:Nat->G->List Ob)(N)(γ0:G){c}{fr}{h}{rest}(hr:gZ fr keep=rest)
  (hw:Qp w0 ⟨fr,h⟩ ⟨V 0 γ0++rest,H 0 γ0⟩) (hR:R 0)
  (round:∀i γ,i<=N->R i->QA P base nt w0 (Uv P base nt w0 Q k (VG R V H rest) N i) [.code c] .normal ⟨V i γ++rest,H i γ⟩):QA P base nt w0 Q (.code (.loop c)::k) .normal ⟨fr,h⟩:=
 Jg (VG R V H rest) N hw ⟨hR,γ0,rfl⟩ λi s hi ⟨hRi,γ,e⟩=>by subst e;exact round i γ hi hRi
end
section
variable {P:Program}{base:Nat}{w0:Start}{Q:Exit->St->Prop}{X:Cx}{nt n:Nat}{k k':List Item}{s s':St}
def YU{i N:Nat}(hi:i<=N)(h1:i<N->hx P base w0 Q X nt n k s)(h2:i=N->hx P base w0 Q X nt n k' s'):WT (decide (i<N)) (hz P base w0 Q X nt n k s) (hz P base w0 Q X nt n k' s'):=
 ⟨λh=>h1 (by simpa using h),λh=>h2 (by simp at h;omega)⟩
def qu{i N:Nat}(hi:i<=N)(h1:i<N->hx P base w0 Q X nt n k s)(h2:i=N->hx P base w0 Q X nt n k' s'):WT (decide ((i:Int)<(N:Int))) (hz P base w0 Q X nt n k s) (hz P base w0 Q X nt n k' s'):=
 ⟨λh=>h1 (by simpa using h),λh=>h2 (by simp at h;omega)⟩
def zE{p}[Decidable p](h1:p->hx P base w0 Q X nt n k s)(h2:¬ p->hx P base w0 Q X nt n k' s'):WT (decide p) (hz P base w0 Q X nt n k s) (hz P base w0 Q X nt n k' s'):=
 ⟨λh=>h1 (Wc h),λh=>h2 (Ef h)⟩
def zF{α:Type}[BEq α][LawfulBEq α]{a b:α}(h1:a=b->hx P base w0 Q X nt n k s)(h2:a≠b->hx P base w0 Q X nt n k' s'):WT (a==b) (hz P base w0 Q X nt n k s) (hz P base w0 Q X nt n k' s'):=
 ⟨λh=>h1 (by simpa using h),λh=>h2 (by simpa using h)⟩
def zG{α:Type}[BEq α][LawfulBEq α]{a b:α}(h1:a≠b->hx P base w0 Q X nt n k s)(h2:a=b->hx P base w0 Q X nt n k' s'):WT (a != b) (hz P base w0 Q X nt n k s) (hz P base w0 Q X nt n k' s'):=
 ⟨λh=>h1 (by simpa using h),λh=>h2 (by simpa using h)⟩
def zH{K K'}{l l'}{p}[Decidable p](h1:p->Vk P base w0 X nt K l s)(h2:¬ p->Vk P base w0 X nt K' l' s'):WT (decide p) (jq P base w0 X nt K l s) (jq P base w0 X nt K' l' s'):=
 ⟨λh=>h1 (Wc h),λh=>h2 (Ef h)⟩
def zI{K K':St->Prop}{l l':List (Bool × Oper × G)}{α:Type}[BEq α][LawfulBEq α]{a b:α}(h1:a=b->Vk P base w0 X nt K l s)(h2:a≠b->Vk P base w0 X nt K' l' s'):WT (a==b) (jq P base w0 X nt K l s) (jq P base w0 X nt K' l' s'):=
 ⟨λh=>h1 (by simpa using h),λh=>h2 (by simpa using h)⟩
def zJ{K K':St->Prop}{l l':List (Bool × Oper × G)}{α:Type}[BEq α][LawfulBEq α]{a b:α}(h1:a≠b->Vk P base w0 X nt K l s)(h2:a=b->Vk P base w0 X nt K' l' s'):WT (a != b) (jq P base w0 X nt K l s) (jq P base w0 X nt K' l' s'):=
 ⟨λh=>h1 (by simpa using h),λh=>h2 (by simpa using h)⟩
end
end Go.Fg
namespace Go.Fg
open Go.RowKit (Below)
def rowFrom(off:Nat)(row:Nat->List D):Nat->List D:=λi=>row (off+i)
theorem ie(row):rowFrom 0 row=row:=by funext i;simp[rowFrom]
theorem Ip(off)(row)(i):rowFrom off row i=row (off+i):=rfl
mutual
def D.fz(l g0 n sz:Nat)(row:Nat->List D):D->D
 | .ref l' g off len=>bif Nat.beq l' l then (bif Nat.beq g g0&&Nat.ble (off+len) n then .imm sz len (rowFrom off row) else .undef) else .ref l' g off len
 | .ptr l' g i j=>bif Nat.beq l' l then (bif Nat.beq g g0&&Nat.blt i n&&Nat.ble j sz then .ip ((row i).drop j) else .undef) else .ptr l' g i j
 | .mref l' g=>bif Nat.beq l' l then .undef else .mref l' g
 | .clo f nf cs=>.clo f nf (jS l g0 n sz row cs)
 | .agg cs=>.agg (jS l g0 n sz row cs)
 | .tup cs=>.tup (jS l g0 n sz row cs)
 | d=>d
def jS(l g0 n sz:Nat)(row:Nat->List D):List D->List D
 | []=>[]
 | c::cs=>c.fz l g0 n sz row::jS l g0 n sz row cs
end
def yi(l g0 n sz)(row):∀cs:List D,(jS l g0 n sz row cs).length=cs.length
 | []=>rfl
 | _::cs=>by simp[jS,yi l g0 n sz row cs]
def Iq(l g0 n sz)(row):∀(cs:List D) (i:Nat),i<cs.length->nth (jS l g0 n sz row cs) i=(nth cs i).fz l g0 n sz row
 | [],i,h=>by simp at h
 | c::cs,0,_=>by simp[jS,nth]
 | c::cs,i+1,h=>by
  have:=Iq l g0 n sz row cs i (by simpa using h);simpa[jS,nth] using this
theorem Qrt(l g0 n sz)(row)(c)(a b):jS l g0 n sz row (bif c then a else b)=bif c then jS l g0 n sz row a else jS l g0 n sz row b:=by cases c<;>rfl
def PJ(l g0 n sz:Nat)(row:Nat->List D):List (Nat × D)->List (Nat × D)
 | []=>[]
 | (t,d)::r=>(t,d.fz l g0 n sz row)::PJ l g0 n sz row r
def Ob.fz(l g0 n sz:Nat)(row:Nat->List D)(o:Ob):Ob:=⟨o.kd,o.gen,o.sz,o.n,λi=>jS l g0 n sz row (o.row i)⟩
def PK(l g0 n sz:Nat)(row:Nat->List D):List Ob->List Ob
 | []=>[]
 | o::r=>o.fz l g0 n sz row::PK l g0 n sz row r
def Ob.gone(o:Ob):Ob:=⟨.arr,o.gen+1,o.sz,0,λ_=>[]⟩
section
variable {Z:Nat->Prop}
def Qru{N}{w}(l g0 n sz)(row){d:D}{v}(c:Cl N w d v):Cl N w (d.fz l g0 n sz row) v:=by
 induction c with
 | raw v=>exact .raw v
 | undef v=>exact .undef v
 | nil a=>exact .nil a
 | imm s m r a cap b o vs ha hl hs hc hr ih=>exact .imm s m r a cap b o vs ha hl hs hc hr
 | ip cells b o vs hc hr ih=>exact .ip cells b o vs hc hr
 | clo f nf cs vs hl hr ih=>exact .clo f nf _ vs (by rw[yi];exact hl) (λi hi=>by rw[yi]at hi;rw[Iq _ _ _ _ _ _ _ hi];exact ih i hi)
 | agg cs vs hl hr ih=>exact .agg _ vs (by rw[yi];exact hl) (λi hi=>by rw[yi]at hi;rw[Iq _ _ _ _ _ _ _ hi];exact ih i hi)
 | tup cs vs hl hr ih=>exact .tup _ vs (by rw[yi];exact hl) (λi hi=>by rw[yi]at hi;rw[Iq _ _ _ _ _ _ _ hi];exact ih i hi)
def QE.fz{h:List Ob}{pl:List Pl}{w:World}{l:Nat}{o:Ob}{p:Pl}(ho:h[l]? = some o)(hp:pl[l]? = some p)(hk:o.kd.ty=0)(hb:∀b q,p=some (b,q)->Z b/\(∀l' q',pl[l']? = some (some (b,q'))->l'=l)/\OY Z h pl w o b q)
  (ZP:∀i,i<o.n->(o.row i).all D.WS=true) {h':List Ob} (hh:∀(l':Nat) (o':Ob),l'≠l->h[l']? = some o'->∃u,h'[l']? = some u/\u.gen=o'.gen/\u.sz=o'.sz/\u.kd.ty=o'.kd.ty) {d:D} {v:Value} (r:QE Z h pl w d v) :
  QE Z h' (pl.set l none) w (d.fz l o.gen o.n o.sz o.row) v:=by
 have Zk:∀(l':Nat),l'≠l->(pl.set l none)[l']? = pl[l']? := λl' qh=>by rw[JJ (Q8 qh)]
 have Px:∀b,XN pl b->XN (pl.set l none) b:=λb hb l' q e=>by
  by_cases e1:l'=l
  ·subst e1;rw[Wm (Wq hp)]at e;cases e
  ·rw[Zk l' e1]at e;exact hb l' q e
 have qR:∀b,free Z pl b->free Z (pl.set l none) b:=λb hb=>⟨hb.1,Px b hb.2⟩;have Gk:∀b q,p=some (b,q)->free Z (pl.set l none) b:=λb q e=>⟨(hb b q e).1,λl' q' e'=>by
  by_cases e1:l'=l
  ·subst e1;rw[Wm (Wq hp)]at e';cases e'
  ·rw[Zk l' e1]at e';exact e1 ((hb b q e).2.1 l' q' e')⟩
 have Ek:∀b q,p=some (b,q)->∃c el,w.heap[b]? = some (.cells c el (0,0))/\(∀i,i<o.n->(o.row i).length=o.sz)/\∃vs:Nat->Nat->Value,∀i j,i<o.n->j<o.sz->w.cell? ⟨b,q+(i*o.sz+j),none⟩=some (vs i j)/\Cl (free Z (pl.set l none)) w (nth (o.row i) j) (vs i j):=λb q e=>by
  obtain⟨c,el,h1,_,h3,h4⟩:=(hb b q e).2.2;refine⟨c,el,h1,h3,λi j=>(c[q+(i*o.sz+j)]?).getD Go.undef,λi j hi hj=>?_⟩;obtain⟨u,hu,hr⟩:=h4 i j hi hj;refine⟨by rw[cell_of_row w b _ c el (0,0) h1,hu];simp[hu],?_⟩;simp only[hu,KA];have h5:=ZP i hi;rw[X6]at h5;have h6:j<(o.row i).length:=by rw[h3 i hi];exact hj
  have h7:(nth (o.row i) j).WS=true:=h5 _ (by simp only[nth,Ze,QW h6,KA];exact qK h6);exact(CO hr h7).mono λx hx _=>⟨qR x hx,rfl⟩
 induction r with
 | cl d v hc=>exact .cl _ _ (Qru l o.gen o.n o.sz o.row (hc.mono λb hb _=>⟨qR b hb,rfl⟩))
 | ref l' g off len o' p' a cap ZT Jl ZE hg hs=>
  by_cases e:l'=l
  ·subst e;rw[ho]at ZT;cases ZT;rw[hp]at Jl;cases Jl;simp only[D.fz,OT,Yr];cases hc:(Nat.beq g o.gen&&Nat.ble (off+len) o.n)
   ·exact .cl _ _ (.undef _)
   ·simp only[Yr,Z9,Wp,Mm]at hc ⊢;rcases hs hc.1 with ⟨h1,h2⟩|⟨b,q,c,el,WD,ha,Gi,JW,Bk⟩
    ·subst h1;subst h2;exact .cl _ _ (.imm _ _ _ _ _ 0 0 (λ_ _=>Go.undef) (λh=>by omega) (by omega) (λi hi=>by omega) (λi j hi=>by omega) (λi j hi=>by omega))
    ·obtain⟨c',O8,k1,k2,vs,k3⟩:=Ek b q WD;refine .cl _ _ (.imm _ _ _ _ _ b (q+off*o.sz) (λi j=>vs (off+i) j) (λ_=>ha) Bk (λi hi=>k2 _ (by omega)) (λi j hi hj=>⟨Gk b q WD,?_⟩) (λi j hi hj=>(k3 (off+i) j (by omega) hj).2));rw[<- (k3 (off+i) j (by omega) hj).1,VL,show q+off*o.sz+(i*o.sz+j)=q+(off*o.sz+i*o.sz+j) by omega]
  ·have Qz:Nat.beq l' l=false:=by rw[<- qb,Wp];exact e
   simp only[D.fz,Qz,Xw];obtain⟨u,u1,u2,u3,u4⟩:=hh l' o' e ZT;exact .ref l' g off len u p' a cap u1 (by rw[Zk l' e];exact Jl) (by rw[u4];exact ZE) (by rw[u2];exact hg) (by rw[u2,u3];exact hs)
 | ptr l' g i j o' p' a ZT Jl ZE hg hs=>
  by_cases e:l'=l
  ·subst e;rw[ho]at ZT;cases ZT;rw[hp]at Jl;cases Jl;simp only[D.fz,OT,Yr];cases hc:(Nat.beq g o.gen&&Nat.blt i o.n&&Nat.ble j o.sz)
   ·exact .cl _ _ (.undef _)
   ·simp only[Yr,Z9,Wp,Mm,xU]at hc ⊢;obtain⟨b,q,WD,ha⟩:=hs hc.1.1;obtain⟨c',O8,k1,k2,vs,k3⟩:=Ek b q WD;subst ha;have hlen:((o.row i).drop j).length=o.sz - j:=by rw[List.length_drop,k2 i hc.1.2]
    refine .cl _ _ (.ip _ b _ (λk=>vs i (j+k)) (λk hk=>⟨Gk b q WD,?_⟩) (λk hk=>?_))
    ·rw[<- (k3 i (j+k) hc.1.2 (by omega)).1];congr 1;simp
    ·rw[HM];exact(k3 i (j+k) hc.1.2 (by omega)).2
  ·have Qz:Nat.beq l' l=false:=by rw[<- qb,Wp];exact e
   simp only[D.fz,Qz,Xw];obtain⟨u,u1,u2,u3,u4⟩:=hh l' o' e ZT;exact .ptr l' g i j u p' a u1 (by rw[Zk l' e];exact Jl) (by rw[u4];exact ZE) (by rw[u2];exact hg) (by rw[u2,u3];exact hs)
 | mref l' g o' p' b ZT Jl ZE hg hs=>
  by_cases e:l'=l
  ·subst e;rw[ho]at ZT;cases ZT;exact absurd hk ZE.1
  ·have Qz:Nat.beq l' l=false:=by rw[<- qb,Wp];exact e
   simp only[D.fz,Qz,Xw];obtain⟨u,u1,u2,u3,u4⟩:=hh l' o' e ZT;exact .mref l' g u p' b u1 (by rw[Zk l' e];exact Jl) (by rw[u4];exact ZE) (by rw[u2];exact hg) (by rw[u2];exact hs)
 | clo f nf cs vs hl hr ih=>exact .clo f nf _ vs (by rw[yi];exact hl) (λi hi=>by rw[yi]at hi;rw[Iq _ _ _ _ _ _ _ hi];exact ih i hi)
 | agg cs vs hl hr ih=>exact .agg _ vs (by rw[yi];exact hl) (λi hi=>by rw[yi]at hi;rw[Iq _ _ _ _ _ _ _ hi];exact ih i hi)
 | tup cs vs hl hr ih=>exact .tup _ vs (by rw[yi];exact hl) (λi hi=>by rw[yi]at hi;rw[Iq _ _ _ _ _ _ _ hi];exact ih i hi)
end
attribute [go_sem] ie Ip D.fz jS Qrt PJ Ob.fz PK Ob.gone
end Go.Fg
namespace Go.Fg
def zK(f:D->D->Prop):List D->List D->Prop
 | [],[]=>True
 | a::r,b::s=>f a b/\zK f r s
 | _,_=>False
def J3:Nat->D->D->Prop
 | 0,d,d'=>d'=d
 | k+1,d,d'=>match d' with
  | .raw v=>d=.raw v
  | .undef=>True
  | .nil=>d=.nil
  | .imm z n r=>match d with
   | .imm z' n' r'=>z=z'/\n=n'/\∀i,i<n->zK (J3 k) (r' i) (r i)
   | .nil=>n=0
   | _=>False
  | .ip cs=>match d with
   | .ip cs'=>zK (J3 k) cs' cs
   | _=>False
  | .ref l g o n=>d=.ref l g o n
  | .ptr l g i j=>d=.ptr l g i j
  | .mref l g=>d=.mref l g
  | .clo f nf cs=>match d with
   | .clo f' ig cs'=>f=f'/\nf=ig/\zK (J3 k) cs' cs
   | _=>False
  | .agg cs=>match d with
   | .agg cs'=>zK (J3 k) cs' cs
   | _=>False
  | .tup cs=>match d with
   | .tup cs'=>zK (J3 k) cs' cs
   | _=>False
def BD{f}(h:∀d,f d d):∀l,zK f l l
 | []=>trivial
 | a::r=>⟨h a,BD h r⟩
def kP:∀(k:Nat) (d:D),J3 k d d
 | 0,_=>rfl
 | k+1,d=>by cases d<;>simp[J3]<;>first|exact BD (kP k) _|exact λ_ _=>BD (kP k) _
theorem PN(k)(l):zK (J3 k) l l=True:=eq_true (BD (kP k) l)
def Ao{f}:∀{l m:List D},zK f l m->m.length=l.length/\∀i,i<l.length->f (nth l i) (nth m i)
 | [],[],_=>⟨rfl,λi hi=>by simp at hi⟩
 | [],_::_,h=>h.elim
 | _::_,[],h=>h.elim
 | a::r,b::s,h=>by
  obtain⟨h1,h2⟩:=Ao h.2;refine⟨by simp[h1],λi hi=>?_⟩;cases i with
  | zero=>exact h.1
  | succ i=>have:=h2 i (by simpa using hi);simpa[nth] using this
def PO:∀(k:Nat) {N:Nat->Prop} {w:World} {d d':D} {v:Value},J3 k d d'->Cl N w d v->Cl N w d' v
 | 0,_,_,d,d',v,h,c=>by have h:d'=d:=h;subst h;exact c
 | k+1,N,w,d,d',v,h,c=>by
  cases d'<;>simp only[J3]at h;case raw=>subst h;exact c
  case undef=>exact .undef _
  case nil=>subst h;exact c
  case imm z n r=>
   split at h
   ·obtain⟨rfl,rfl,h⟩:=h;cases c with
    | imm _ _ _ a cap b o vs ha hl hs hc hr=>
     exact .imm _ _ _ a cap b o vs ha hl (λi hi=>by rw[(Ao (h i hi)).1];exact hs i hi) hc (λi j hi hj=>PO k ((Ao (h i hi)).2 j (by rw[hs i hi];exact hj)) (hr i j hi hj))
   ·subst h;cases c with
    | nil a=>exact .imm _ _ _ _ _ 0 0 (λ_ _=>Go.undef) (λh=>by omega) (by omega) (λi hi=>by omega) (λi j hi=>by omega) (λi j hi=>by omega)
   ·exact h.elim
  case ip cs=>
   split at h
   ·obtain⟨h1,h2⟩:=Ao h;cases c with
    | ip _ b o vs hc hr=>exact .ip _ b o vs (λj hj=>hc j (by omega)) (λj hj=>PO k (h2 j (by omega)) (hr j (by omega)))
   ·exact h.elim
  case ref=>subst h;exact c
  case ptr=>subst h;exact c
  case mref=>subst h;exact c
  case clo f nf cs=>
   split at h
   ·obtain⟨rfl,rfl,h⟩:=h;obtain⟨h1,h2⟩:=Ao h;cases c with
    | clo _ _ _ vs hl hr=>exact .clo _ _ _ vs (by omega) (λj hj=>PO k (h2 j (by omega)) (hr j (by omega)))
   ·exact h.elim
  case agg cs=>
   split at h
   ·obtain⟨h1,h2⟩:=Ao h;cases c with
    | agg _ vs hl hr=>exact .agg _ vs (by omega) (λj hj=>PO k (h2 j (by omega)) (hr j (by omega)))
   ·exact h.elim
  case tup cs=>
   split at h
   ·obtain⟨h1,h2⟩:=Ao h;cases c with
    | tup _ vs hl hr=>exact .tup _ vs (by omega) (λj hj=>PO k (h2 j (by omega)) (hr j (by omega)))
   ·exact h.elim
def yj:∀(k:Nat) {Z:Nat->Prop} {h:List Ob} {pl:List Pl} {w:World} {d d':D} {v:Value},J3 k d d'->QE Z h pl w d v->QE Z h pl w d' v
 | 0,_,_,_,_,d,d',v,e,c=>by have e:d'=d:=e;subst e;exact c
 | k+1,Z,h,pl,w,d,d',v,e,c=>by
  cases c with
  | cl _ _ hc=>exact .cl _ _ (PO (k+1) e hc)
  | ref l g off len o p a cap ho hp hk hg hs=>
   cases d'<;>simp only[J3,reduceCtorEq]at e
   ·exact .cl _ _ (.undef _)
   ·cases e;exact .ref l g off len o p a cap ho hp hk hg hs
  | ptr l g i j o p a ho hp hk hg hs=>
   cases d'<;>simp only[J3,reduceCtorEq]at e
   ·exact .cl _ _ (.undef _)
   ·cases e;exact .ptr l g i j o p a ho hp hk hg hs
  | mref l g o p b ho hp hk hg hs=>
   cases d'<;>simp only[J3,reduceCtorEq]at e
   ·exact .cl _ _ (.undef _)
   ·cases e;exact .mref l g o p b ho hp hk hg hs
  | clo f nf cs vs hl hr=>
   cases d'<;>simp only[J3,reduceCtorEq]at e
   ·exact .cl _ _ (.undef _)
   ·obtain⟨rfl,rfl,e⟩:=e;obtain⟨h1,h2⟩:=Ao e;exact .clo _ _ _ vs (by omega) (λj hj=>yj k (h2 j (by omega)) (hr j (by omega)))
  | agg cs vs hl hr=>
   cases d'<;>simp only[J3,reduceCtorEq]at e
   ·exact .cl _ _ (.undef _)
   ·obtain⟨h1,h2⟩:=Ao e;exact .agg _ vs (by omega) (λj hj=>yj k (h2 j (by omega)) (hr j (by omega)))
  | tup cs vs hl hr=>
   cases d'<;>simp only[J3,reduceCtorEq]at e
   ·exact .cl _ _ (.undef _)
   ·obtain⟨h1,h2⟩:=Ao e;exact .tup _ vs (by omega) (λj hj=>yj k (h2 j (by omega)) (hr j (by omega)))
def Told(R:D->List Ob->Prop)(d:D)(h:List Ob):Prop:=∃d',J3 6 d d'/\R d' h
def QK.PQ{P}{f}{F}{cs' cs}{R}(h:QK P f F cs R)(e:zK (J3 6) cs' cs):QK P f F cs' R:=λZ base w pl vs h1 h2 h3 hl hc=>by
 obtain⟨e1,e2⟩:=Ao e;exact h Z base w pl vs h1 h2 h3 (by omega) λi hi=>yj 6 (e2 i (by omega)) (hc i (by omega))
def PR(fr:List (Nat × D)):List (Nat × D)->Prop
 | []=>True
 | (t,d)::r=>J3 6 (get fr t) d/\PR fr r
def ij(o o':Ob):Prop:=o'.gen=o.gen/\o'.sz=o.sz/\o'.n=o.n/\o'.kd.Ui o.kd/\∀i,i<o.n->zK (J3 6) (o.row i) (o'.row i)
def PS:List Ob->List Ob->Prop
 | [],[]=>True
 | o::r,o'::r'=>ij o o'/\PS r r'
 | _,_=>False
section
variable {k:Nat}{d:D}
theorem Qrw:J3 k d d=True:=eq_true (kP k d)
theorem Qrx{v}:J3 (k+1) d (.raw v)=(d=.raw v):=rfl
theorem Qry:J3 (k+1) d .undef=True:=rfl
theorem Qrz:J3 (k+1) d .nil=(d=.nil):=rfl
theorem Uy{z n z' n'}{r r'}:J3 (k+1) (.imm z' n' r') (.imm z n r)=(z=z'/\n=n'/\∀i,i<n->zK (J3 k) (r' i) (r i)):=rfl
theorem QrA{z n}{r}:J3 (k+1) .nil (.imm z n r)=(n=0):=rfl
theorem QrB{l g o n}:J3 (k+1) d (.ref l g o n)=(d=.ref l g o n):=rfl
theorem QrC{l g i j}:J3 (k+1) d (.ptr l g i j)=(d=.ptr l g i j):=rfl
theorem QrD{l g}:J3 (k+1) d (.mref l g)=(d=.mref l g):=rfl
theorem QrE{cs cs'}:J3 (k+1) (.ip cs') (.ip cs)=zK (J3 k) cs' cs:=rfl
theorem QrF{f f'}{nf ig}{cs cs'}:J3 (k+1) (.clo f' ig cs') (.clo f nf cs)=(f=f'/\nf=ig/\zK (J3 k) cs' cs):=rfl
theorem QrG{cs cs'}:J3 (k+1) (.agg cs') (.agg cs)=zK (J3 k) cs' cs:=rfl
theorem QrH{cs cs'}:J3 (k+1) (.tup cs') (.tup cs)=zK (J3 k) cs' cs:=rfl
theorem QrI{f}:zK f [] []=True:=rfl
theorem QrJ{f}{a b}{r s}:zK f (a::r) (b::s)=(f a b/\zK f r s):=rfl
end
attribute [go_sem] Qrw Qrx Qry Qrz Uy QrA QrB QrC QrD QrE QrF QrG QrH QrI QrJ PN PR ij PS
end Go.Fg
