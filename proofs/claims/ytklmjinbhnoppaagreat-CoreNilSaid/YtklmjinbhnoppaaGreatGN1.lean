/- Contracts and laws on the way to the statement. No conditions. -/
import Derived.Test.YtklmjinbhnoppaaGreatSCl2
import Derived.Test.YtklmjinbhnoppaaGreatSUe
set_option maxRecDepth 100000
set_option maxHeartbeats 16000000
set_option linter.unusedVariables false
set_option linter.unusedSimpArgs false
set_option linter.unusedSectionVars false
namespace Go.Fg.X
open Go.Proofs Go.Fg
theorem Qpn {c:Qi} (h:JH c=0):c.leaf=true→1≤c.Za∧c.Za≤64∧1≤c.bytes∧c.bytes≤1048576:=by
 intro hl
 have h2:Yv c=true:=by
  cases e:Yv c with
  | true=>rfl
  | false=>
   exfalso
   unfold JH at h
   rw[hl,e] at h
   simp only[Bool.not_false,Bool.and_true,Bool.true_or,if_true] at h
   split at h
   ·omega
   ·split at h <;> omega
 unfold Yv zF at h2
 simp only[Bool.and_eq_true,decide_eq_true_eq] at h2
 omega
theorem Qpo (T2:List Qi) (M:Qj) (id:Int):(Z8 T2 M id).T=M.T:=by
 unfold Z8
 split
 ·rfl
 ·split <;> rfl
theorem Tn (T2:List Qi):∀ (l:List Int) (M:Qj),(l.foldl (Z8 T2) M).T=M.T
 | [],_=>rfl
 | id::l,M=>by rw[List.foldl_cons,Tn T2 l,Qpo]
theorem Qpp {S:Nat→Prop} {h:List Ob} {p:Nat} {T:List Qi} {A:List Int} (O:W6 S h p T A) (leaf:Int) (c:Qi) (hc:Qr T leaf=some c) (WI:¬ 1<QH c.ls) :
  QG Tryz.prog 58 h [.ptr p 0 0 0,Qb leaf] (fun d h'=>d=.tup [.nil,Qb 6]∧h'=h):=by
 obtain ⟨b1,b2,b3,c1,c2,c3,Jc,Jg,Jj,kl,O⟩:=O
 have ho:=O.o
 have m1:=O.m1
 have k1:=O.f1.at_ leaf
 rw[Yy,hc] at k1
 simp only[if_neg WI] at k1
 refine QW Qe 200 Tryz.func58 rfl Tryz.ntmps58 Tryz.results58 rfl fun base w pl hb=>?_
 have Qf:=Qd ho
 have Yz:=Qd m1
 simp only[go_sem,simprocAttr,Qa,ho,Qf,m1,Yz,k1,Go.undef]
theorem tj {T2:List Qi} {a:Int}:∀ (l A:List Int),a∈l.foldl (YM T2) A→a∈l∨a∈A
 | [],A,h=>.inr h
 | id::l,A,h=>by
  rw[List.foldl_cons] at h
  rcases tj l _ h with h | h
  ·exact .inl (List.mem_cons_of_mem _ h)
  ·unfold YM at h
   split at h
   ·rcases List.mem_cons.1 h with h | h
    ·exact .inl (h▸List.mem_cons_self)
    ·exact .inr h
   ·exact .inr h
theorem Qpq {l:List Int} (h:l.Nodup) {k:Nat} (hk:k<l.length):l.getD k 0 ∉ l.take k:=fun h2=>by
 rw[← List.take_append_drop k l,List.nodup_append] at h
 refine h.2.2 _ h2 (l.getD k 0) ?_ rfl
 rw[List.getD_eq_getElem?_getD,List.getElem?_eq_getElem hk,List.drop_eq_getElem_cons hk]
 exact List.mem_cons_self
theorem Qpr {M:Qj} {id:Int} (h:id∈JZ M):id∈Yf M.T:=by unfold JZ YE at h;exact (List.mem_filter.1 h).1
theorem Qps {T:List Qi} (h:KH T):(Yf T).Nodup:=by
 unfold Yf
 have h2:(T.filter (·.leaf)).Pairwise (fun a b=>a.iD<b.iD):=List.Pairwise.filter _ h
 rw[List.nodup_iff_pairwise_ne,List.pairwise_map]
 exact h2.imp fun JW=>by omega
theorem Qpt {M:Qj} (I:Qy M):(JZ M).Nodup:=List.Pairwise.filter _ (Qps I.tree.rising)
theorem Qpu {own:Nat→Tag} {h:List Ob} {p:Nat} {L:Loc} {M:Qj} (C:Q4 own h p L M) (I:Qy M) (K:xu M.lk) (b:Bool) (l:List ZP) (hc:∀ c∈l,ZP.Ok c) (hl:l.length<1000000)
  (ja:∀ x∈M.Lv,x.ki∈JZ M) (yS:∀ id,∀ x∈M.KT id,∃ n∈JZ M,x.ki∈up M.T n) :
  QG Tryz.prog 17 h [.ptr p 0 0 0,QN b,DF l] (fun d h'=>∃ own' L' M',Q4 own' h' p L' M'∧Qy M'∧Q6 own h own' h' ∧
   d=.tup [Qb (xw M l),Qb (q8 M b l)]∧M'=Xe M b l):=by
 have ho:=C.ob
 refine QW Qe 200 Tryz.func17 rfl Tryz.ntmps17 Tryz.results17 rfl fun base w pl hb=>?_
 have Qf:=Qd ho
 simp only[go_sem,simprocAttr,Qa,ho,Qf]
 refine VY [10] Qe hb 200 mixed [(0,true),(1,true),(2,true),(3,true),(4,true),(5,true),(6,true),(7,true),(8,true),(9,true),(10,false),(11,true),(12,true),(13,true),(14,true),(15,true),(16,true),(17,true)] [] (by kernel_rfl) (by kernel_rfl) ?_
 simp only[go_sem,simprocAttr,Qa,ho,Qf]
 have hT:=Qd C.ob
 refine Wf hb QhV rfl ?_ (QnR C.tr I.tree I.vA M.lk.t K.t1 K.t2 l hc hl) rfl fun d h1 hR=>?_
 ·simp only[go_sem,simprocAttr]
 obtain ⟨t2,rfl,hR2,g,rfl⟩:=hR
 obtain ⟨J4,BD⟩:∃ o,o=Zg own h .tree:=⟨_,rfl⟩
 have C1:Q4 J4 (h++g) p L M:=by rw[BD];exact C.step fun l hl _=>⟨qo hl,QU hl⟩
 have D1:Q6 own h J4 (h++g):=by rw[BD];exact Q6.app own h g .tree
 refine QF hb ?_
 simp only[go_sem,simprocAttr,Qa]
 by_cases hE:zT M.T M.lk.t l=0
 case neg=>
  have dE:(zT M.T M.lk.t l != 0)=true:=by simpa using hE
  have e1:q8 M b l=zT M.T M.lk.t l:=by unfold q8;rw[if_pos hE]
  have e2:xw M l=DE M.T l:=by unfold xw;rw[if_pos hE]
  have e3:Xe M b l=M:=by unfold Xe;rw[e1,if_neg hE]
  simp only[go_sem,simprocAttr,Qa,dE]
  exact ⟨J4,L,M,C1,I,D1,by rw[e1,e2],e3.symm⟩
 have dE:(zT M.T M.lk.t l != 0)=false:=by simpa using hE
 have KY:DE M.T l=0∨True:=.inr trivial
 have R2:Kf (fun l=>J4 l=.tree) (h++g) t2 (j7 M.T l):=(hR2 hE).step fun l _ h1=>⟨by rw[BD];unfold Zg;rw[if_pos h1],rfl⟩
 obtain ⟨T2,BF⟩:∃ T2,T2=j7 M.T l:=⟨_,rfl⟩
 rw[← BF] at R2
 obtain ⟨I2,K2⟩:=rT I.tree I.vA hc
 rw[← BF] at I2 K2
 have Zn:=C1.ob
 have K7:=Qd Zn
 have hlen:=I.tree.len
 have MP:=I2.len
 simp only[go_sem,simprocAttr,Qa,dE,Zn,K7,if_pos hE]
 have R1:=C1.tr.toR
 have G5:(Jm M.T T2).length<1000000:=by have:=Qpj M.T T2;omega
 refine QL hb lZ rfl ?_ (rP R1 R2.toR (by omega) (by omega)) rfl fun d hR=>?_
 ·simp only[go_sem,simprocAttr,Qa]
 subst hR
 refine Co Qe hb 2 ?_
 simp only[go_sem,simprocAttr,Qa]
 first | refine Wc ?_ | skip
 refine Mh (fun st=>YL M T2 b=false∧st=⟨[(0,.ptr p 0 0 0),(1,QN b),(6,Qb 0),(7,Qb 0),(8,.ptr t2 0 0 0),(11,ints (Jm M.T T2))],h++g⟩) ?_ ?_
 ·refine Qc hb ?_
  simp only[go_sem,simprocAttr,Qa,Zn,K7]
  refine QL hb Fs rfl ?_ (Tj (h++g) (Jm M.T T2) G5 (.clo 53 1 [.ptr p 0 0 0]) 53 1 [.ptr p 0 0 0] QhW rfl (z6 M) (fun h' n hm hx=>?_)) rfl fun d hR=>?_
  ·simp only[go_sem,simprocAttr,Qa]
  ·have key:∀ (l:Nat) (o:Ob),((h++g).map Ob.ro)[l]? = some o→(h'.map Ob.ro)[l]? = some o:=fun l o e=>by
    obtain ⟨g2,rfl⟩:=hx
    have e2:=Zv ((QU (Qd e)).trans e:((h++g).map Ob.ro++g2)[l]? = some o)
    rw[e2]
    rw[List.getElem?_map] at e
    obtain ⟨o2,h2,rfl⟩:=Option.map_eq_some_iff.1 e
    rw[ro_ro]
   exact Qo7 (C1.ro.more key) I n
  subst hR
  rw[FF]
  refine Qc hb ?_
  obtain ⟨own',QuC⟩:∃ o,o=J4:=⟨_,rfl⟩
  have Tp:YL M T2 b=true→∃ own' L' M',Q4 own' (h++g) p L' M'∧Qy M'∧Q6 own h own' (h++g)∧D.tup [Qb 0,Qb 24]=.tup [Qb (xw M l),Qb (q8 M b l)]∧M'=Xe M b l:=fun hB=>by
   have e1:q8 M b l=24:=by unfold q8;rw[if_neg (by rw[hE];simp),← BF,if_pos hB]
   have e2:xw M l=0:=by unfold xw;rw[if_neg (by rw[hE];simp)]
   have e3:Xe M b l=M:=by unfold Xe;rw[e1];rfl
   exact ⟨J4,L,M,C1,I,D1,by rw[e1,e2];rfl,e3.symm⟩
  cases Je:(Jm M.T T2).any (z6 M) with
  | true=>
   simp only[go_sem,simprocAttr,Qa]
   exact Tp (by unfold YL;rw[Je];rfl)
  | false=>
   simp only[go_sem,simprocAttr,Qa,Zn,K7]
   cases YW:Mz M.T T2 with
   | false=>
    refine QL hb OV rfl ?_ (Tm R1 R2.toR (by omega) (by omega) G5) rfl fun d hR=>?_
    ·simp only[go_sem,simprocAttr,Qa,Zn,K7,YW]
    subst hR
    refine Qc hb ?_
    simp only[go_sem,simprocAttr,Qa,Zn,K7,YW]
    refine ⟨_,⟨by unfold YL;rw[Je,YW];rfl,rfl⟩,?_⟩
    exact Ql.frame (by simp only[go_sem,simprocAttr])
   | true=>
    cases b with
    | false=>
     refine QL hb OV rfl ?_ (Tm R1 R2.toR (by omega) (by omega) G5) rfl fun d hR=>?_
     ·simp only[go_sem,simprocAttr,Qa,Zn,K7,YW]
     subst hR
     refine Qc hb ?_
     simp only[go_sem,simprocAttr,Qa,Zn,K7,YW]
     exact Tp (by unfold YL;rw[YW];simp)
    | true=>
     refine QL hb OV rfl ?_ (Tm R1 R2.toR (by omega) (by omega) G5) rfl fun d hR=>?_
     ·simp only[go_sem,simprocAttr,Qa,Zn,K7,YW]
     subst hR
     refine Qc hb ?_
     simp only[go_sem,simprocAttr,Qa,Zn,K7,YW]
     refine QL hb OW rfl ?_ (Tl C1.ro I) rfl fun d hR=>?_
     ·simp only[go_sem,simprocAttr,Qa,Zn,K7]
     subst hR
     refine Qc hb ?_
     simp only[go_sem,simprocAttr,Qa,Zn,K7]
     cases hd:decide ((0:Int)<((JZ M).length:Int)) with
     | true=>
      simp only[go_sem,simprocAttr,Qa,hd]
      exact Tp (by unfold YL;rw[YW];simp;right;simpa using hd)
     | false=>
      simp only[go_sem,simprocAttr,Qa,hd]
      refine ⟨_,⟨by unfold YL;rw[Je,YW];simp;simpa using hd,rfl⟩,?_⟩
      exact Ql.frame (by simp only[go_sem,simprocAttr])
 rintro st ⟨Va,rfl⟩
 have C2:=C1.Qpc R2
 have D2:=D1.trans (Q6.set (own:=J4) (h:=h++g) (l:=p) (XD M.lk t2 L.b L.o L.v L.m M.Zx M.acc) (by rw[C1.op];decide))
 generalize hH2:(h++g).set p (XD M.lk t2 L.b L.o L.v L.m M.Zx M.acc)=H2 at C2 D2
 have Qpx:(h++g).set p ⟨.one,0,9,1,fun _=>[.raw (.int .i64 M.lk.t),.raw (.int .i64 M.lk.VJ),.ptr t2 0 0 0,.mref L.b 0,.ptr L.o 0 0 0,.ptr L.v 0 0 0,.mref L.m 0,.raw (.int .u64 (M.Zx:Nat)),.raw (.int .u64 (M.acc:Nat))]⟩=H2:=hH2
 refine Qc hb ?_
 simp only[go_sem,simprocAttr,Qa,Zn,K7,Qpx]
 obtain ⟨tl,Tq⟩:∃ tl,tl=Jm M.T T2:=⟨_,rfl⟩
 rw[← Tq] at G5
 rw[← Tq]
 refine ZB (fun k st=>∃ Xc H L2,Q4 Xc H p L2 ((tl.take k).foldl (Z8 T2) { M with T:=T2 })∧L2.t=t2∧Q6 own h Xc H∧st=⟨[(0,.ptr p 0 0 0),(6,Qb 0),(7,Qb 0),(8,.ptr t2 0 0 0),(71,ints tl),(72,Qb tl.length),(73,Qb k)],H⟩) tl.length (s0:=⟨[(0,.ptr p 0 0 0),(6,Qb 0),(7,Qb 0),(8,.ptr t2 0 0 0),(71,ints tl),(72,Qb tl.length),(73,Qb 0)],H2⟩) (Ql.frame (by simp only[go_sem,simprocAttr])) ⟨J4,H2,_,C2,rfl,D2,rfl⟩ ?_
 rintro k st hk ⟨Xc,H,L2,Ck,XY,Dk,rfl⟩
 by_cases Qq:k<tl.length
 ·have dk:=decide_eq_true Qq
  obtain ⟨id,QX⟩:∃ id,id=tl.getD k 0:=⟨_,rfl⟩
  obtain ⟨Mk,xn⟩:∃ Mk,Mk=(tl.take k).foldl (Z8 T2) { M with T:=T2 }:=⟨_,rfl⟩
  have Zt:(tl.take (k+1)).foldl (Z8 T2) { M with T:=T2 }=Z8 T2 Mk id:=by
   rw[List.take_add_one,List.getElem?_eq_getElem Qq,List.foldl_append,← xn,QX,List.getD_eq_getElem?_getD,List.getElem?_eq_getElem Qq];rfl
  have DW:Mk.T=T2:=by rw[xn];exact Tn _ _ _
  rw[← xn] at Ck
  have Zl:=KG (show k<4611686018427387904 by omega)
  have RT:KW H t2 T2:=by have:=Ck.tr.toR;rwa [XY,DW] at this
  obtain ⟨x,hx⟩:∃ x,x=(Qr T2 id).getD default:=⟨_,rfl⟩
  have VV:=CZ RT id
  rw[← hx] at VV
  have XI:=Ck.ob
  have DL:=Qd XI
  have Ym:=Ck.JS
  have tm:=Qd Ym
  have Kv:=Ck.J3
  have kV:=Qd Kv
  have Ap:L2.b≠L2.m:=fun e=>by have:=Ck.ow;rw[e,Ck.om] at this;cases this
  have V0:L2.b≠p:=fun e=>by have:=Ck.ow;rw[e,Ck.op] at this;cases this
  have tn:L2.m≠p:=fun e=>by have:=Ck.om;rw[e,Ck.op] at this;cases this
  refine Qc hb ?_
  simp only[go_sem,simprocAttr,Qa,dk,Qq,← QX]
  refine QL hb Yr rfl ?_ VV rfl fun d hR=>?_
  ·simp only[go_sem,simprocAttr,Qa,XI,DL,Ym,tm,Kv,kV,Qt Ap,Qt V0]
  subst hR
  refine Qc hb ?_
  simp only[go_sem,simprocAttr,Qa,XI,DL,Ym,tm,Kv,kV,Qt Ap,Qt V0]
  have C3:=Ck.Qpe id
  have D3:=Dk.trans (Q6.set (own:=Xc) (h:=H) (l:=L2.b) (QE .i64 L2.cb (ZM L2.eb id)) (by rw[Ck.ow];decide))
  have C4:=C3.Qpf id
  have D4:=D3.trans (Q6.set (own:=Xc) (h:=H.set L2.b (QE .i64 L2.cb (ZM L2.eb id))) (l:=L2.m) (QE .i64 L2.cm (ZM L2.em id)) (by rw[Ck.om];decide))
  have C5:=C4.xl [⟨.one,0,14,1,fun _=>x.cells⟩]
  have D5:=D4.trans (Q6.app Xc _ [⟨.one,0,14,1,fun _=>x.cells⟩] .no)
  have Xu:((H.set L2.b (QE .i64 L2.cb (ZM L2.eb id))).set L2.m (QE .i64 L2.cm (ZM L2.em id))).length=H.length:=by simp
  generalize tp:(H.set L2.b (QE .i64 L2.cb (ZM L2.eb id))).set L2.m (QE .i64 L2.cm (ZM L2.em id))++[⟨.one,0,14,1,fun _=>x.cells⟩]=H5 at C5 D5
  have Ts:=tp
  simp only[go_sem,simprocAttr] at Ts
  have Tt:H5[H.length]? = some ⟨.one,0,14,1,fun _=>x.cells⟩:=by rw[← tp,← Xu,Kq rfl];rfl
  have tq:=Qd Tt
  generalize Zg Xc ((H.set L2.b (QE .i64 L2.cb (ZM L2.eb id))).set L2.m (QE .i64 L2.cm (ZM L2.em id))) .no=q4 at C5 D5
  have vB:=C5.ob
  have DQ:=Qd vB
  have GV:=C5.JS
  have MY:=Qd GV
  have pU:=C5.J3
  have QuD:=Qd pU
  cases hf:Qr T2 id with
  | none=>
   have e1:Z8 T2 Mk id={ Mk with N:=z7 Mk.N id,ks:=fun j=>if j=id then false else Mk.ks j }:=by unfold Z8;rw[hf]
   have C5s:Q4 q4 H5 p { L2 with eb:=ZM L2.eb id,em:=ZM L2.em id } (Z8 T2 Mk id):=by rw[e1];exact C5
   rw[hf] at VV
   simp only[go_sem,simprocAttr,Qa,hf,Option.isSome_none,Ts]
   exact ⟨Qq,_,Ql.frame (by simp only[go_sem,simprocAttr,Zl]),q4,H5,{ L2 with eb:=ZM L2.eb id,em:=ZM L2.em id },(by rw[Zt];exact C5s),XY,D5,rfl⟩
  | some c=>
   have Lo:x=c:=by rw[hx,hf];rfl
   obtain ⟨KV,Nj⟩:=(KQ I2.rising).1 hf
   subst Lo
   have RY:=Qpn (I2.right x KV)
   have VW:=Qpi H5 x RY
   simp only[go_sem,simprocAttr,Qa,hf,Option.isSome_some,Ts]
   refine QA Qe hb 200 mixed [(0,true),(1,true),(2,true),(3,true),(4,true),(5,true),(6,false),(7,false)] (by kernel_rfl) (by kernel_rfl) ?_
   simp only[go_sem,simprocAttr,Qa,vB,DQ,Tt,tq]
   refine Fq hb QhX rfl ?_ VW rfl fun d g7 hR=>?_
   ·simp only[go_sem,simprocAttr]
   obtain ⟨rfl,g8,lq,hg8,QuE,Dt,QpA⟩:=hR
   obtain rfl:g7=g8:=List.append_cancel_left hg8
   subst Nj
   obtain ⟨WR,Tu⟩:∃ o:Nat→Tag,o=fun l=>if l<H5.length then q4 l else if l=H5.length then .no else if l=H5.length+1 then .YZ x.iD else .Wl x.iD:=⟨_,rfl⟩
   have w7:∀ l,l<H5.length→WR l=q4 l:=fun l hl=>by rw[Tu];exact if_pos hl
   have we:WR (H5.length+1)=.YZ x.iD:=by rw[Tu];dsimp only;rw[if_neg (by omega),if_neg (by omega),if_pos rfl]
   have wq:∀ l,H5.length+2≤l→WR l=.Wl x.iD:=fun l hl=>by rw[Tu];dsimp only;rw[if_neg (by omega),if_neg (by omega),if_neg (by omega)]
   have C7:=C5.step (own':=WR) (h':=H5++g7) fun l hl _=>⟨w7 l hl,QU hl⟩
   have D7:Q6 own h WR (H5++g7):=D5.trans ⟨w7,fun l hl _=>QU hl,by simp⟩
   obtain ⟨c8,es8,hm8,C8⟩:=C7.Qph (n:=V9 x) (e:=H5.length+1) (q:=lq) (by dsimp only;rw[G2];exact if_pos rfl) Dt we (fun X3=>by
    obtain ⟨k8,hk8,SK⟩:=QpA X3
    exact ⟨k8,hk8,SK.step fun l _ hl=>⟨wq l hl,rfl⟩⟩) (ta (K2 x KV))
   obtain ⟨M8,Tv⟩:∃ M8,M8={ Mk with N:=V9 x::z7 Mk.N x.iD,ks:=fun j=>if j=x.iD then false else Mk.ks j }:=⟨_,rfl⟩
   obtain ⟨L8,Tw⟩:∃ L8:Loc,L8={ L2 with em:=ZM L2.em x.iD,cb:=c8,eb:=es8,le:=fun j=>if j=x.iD then H5.length+1 else L2.le j,lq:=fun j=>if j=x.iD then lq else L2.lq j }:=⟨_,rfl⟩
   have C8:Q4 WR ((H5++g7).set L2.b (J5 .i64 L2.cb (ZM L2.eb x.iD) x.iD (.ptr (H5.length+1) 0 0 0))) p L8 M8:=by rw[Tw,Tv];exact C8
   have tt:L8.t=t2:=by rw[Tw];exact XY
   have l8m:L8.m=L2.m:=by rw[Tw]
   have D8:=D7.trans (Q6.set (own:=WR) (h:=H5++g7) (l:=L2.b) (J5 .i64 L2.cb (ZM L2.eb x.iD) x.iD (.ptr (H5.length+1) 0 0 0)) (by rw[C7.ow];decide))
   have eH:(H5++g7).set L2.b (J5 .i64 L2.cb (ZM L2.eb x.iD) x.iD (.ptr (H5.length+1) 0 0 0))=H5.set L2.b (J5 .i64 L2.cb (ZM L2.eb x.iD) x.iD (.ptr (H5.length+1) 0 0 0))++g7:=List.set_append_left _ _ MY
   have QpD:L2.b≠H.length:=fun e=>by
    have h1:=Qd Ck.JS
    omega
   have G6:((H5++g7).set L2.b (J5 .i64 L2.cb (ZM L2.eb x.iD) x.iD (.ptr (H5.length+1) 0 0 0)))[H.length]? = some ⟨.one,0,14,1,fun _=>x.cells⟩:=(Qt QpD).trans ((QU tq).trans Tt)
   rw[eH] at G6 C8 D8
   generalize hH8:H5.set L2.b (J5 .i64 L2.cb (ZM L2.eb x.iD) x.iD (.ptr (H5.length+1) 0 0 0))++g7=H8 at G6 C8 D8
   have tu:=Qd G6
   have tv:=C8.ob
   have QpF:=Qd tv
   have tw:=C8.J3
   have tx:=Qd tw
   refine QF hb ?_
   simp only[go_sem,simprocAttr,Qa,GV,MY,hH8]
   cases X3:x.leaf with
   | true=>
    simp only[go_sem,simprocAttr,Qa,G6,tu,X3]
    have e1:Z8 T2 Mk x.iD=M8:=by unfold Z8;rw[hf,Tv];dsimp only;rw[if_pos X3]
    exact ⟨Qq,_,Ql.frame (by simp only[go_sem,simprocAttr,Zl]),WR,H8,L8,(by rw[Zt,e1];exact C8),tt,D8,rfl⟩
   | false=>
    simp only[go_sem,simprocAttr,Qa,G6,tu,X3]
    have C9:=C8.step (own':=Zg WR H8 (.Vm x.iD)) (h':=H8++YJ H8.length) fun l hl _=>⟨qo hl,QU hl⟩
    have D9:Q6 own h (Zg WR H8 (.Vm x.iD)) (H8++YJ H8.length):=D8.trans (Q6.app WR H8 (YJ H8.length) (.Vm x.iD))
    have un:∀ l,H8.length≤l→Zg WR H8 (.Vm x.iD) l=.Vm x.iD:=fun l hl=>by unfold Zg;rw[if_pos hl]
    obtain ⟨c10,QpH,QuH,qX⟩:=C9.Qpg x.iD (k:=H8.length+2) (Te (S:=fun l=>Zg WR H8 (.Vm x.iD) l=.Vm x.iD) (by rw[Kq rfl];rfl) (by rw[Ve (k:=1) rfl];rfl) (by rw[Ve (k:=2) rfl];rfl) (un _ (by omega)) (un _ (by omega)) (un _ (by omega)))
    have yN:=D9.trans (Q6.set (own:=Zg WR H8 (.Vm x.iD)) (h:=H8++YJ H8.length) (l:=L8.m) (J5 .i64 L8.cm L8.em x.iD (.ptr (H8.length+2) 0 0 0)) (by rw[C9.om];decide))
    have eH2:(H8++YJ H8.length).set L8.m (J5 .i64 L8.cm L8.em x.iD (.ptr (H8.length+2) 0 0 0))=H8.set L8.m (J5 .i64 L8.cm L8.em x.iD (.ptr (H8.length+2) 0 0 0))++YJ H8.length:=List.set_append_left _ _ tx
    rw[eH2] at qX yN
    generalize QpJ:H8.set L8.m (J5 .i64 L8.cm L8.em x.iD (.ptr (H8.length+2) 0 0 0))++YJ H8.length=H10 at qX yN
    refine QA Qe hb 200 mixed [(0,true),(1,true),(2,true),(3,true),(4,true),(5,false),(6,false)] (by kernel_rfl) (by kernel_rfl) ?_
    simp only[go_sem,simprocAttr,Qa,tv,QpF]
    refine Fq hb lX rfl ?_ (sR H8) rfl fun d g9 hR=>?_
    ·simp only[go_sem,simprocAttr]
    obtain ⟨rfl,rfl⟩:=hR
    refine QF hb ?_
    simp only[go_sem,simprocAttr,Qa,tw,tx,QpJ]
    have e1:Z8 T2 Mk x.iD={ M8 with ks:=fun j=>if j=x.iD then true else M8.ks j,KT:=fun j=>if j=x.iD then [] else M8.KT j }:=by
     unfold Z8;rw[hf,Tv];dsimp only;rw[if_neg (by rw[X3];exact Bool.false_ne_true)]
     congr 1
     funext j
     by_cases e:j=x.iD
     ·rw[if_pos e,if_pos e]
     ·rw[if_neg e,if_neg e,if_neg e]
    exact ⟨Qq,_,Ql.frame (by simp only[go_sem,simprocAttr,Zl]),Zg WR H8 (.Vm x.iD),H10,{ L8 with cm:=c10,em:=QpH,lk:=fun j=>if j=x.iD then H8.length+2 else L8.lk j },(by rw[Zt,e1];exact qX),tt,yN,rfl⟩
 ·have Z1:k=tl.length:=by omega
  subst Z1
  have hTl:(tl.take tl.length).foldl (Z8 T2) { M with T:=T2 }=KO M T2:=by rw[List.take_length,Tq];rfl
  rw[hTl] at Ck
  have DW:(KO M T2).T=T2:=Tn _ _ _
  have RT:KW H t2 T2:=by have:=Ck.tr.toR;rwa [XY,DW] at this
  have dk:decide (tl.length<tl.length)=false:=decide_eq_false (by omega)
  refine Qc hb ?_
  simp only[go_sem,simprocAttr,Qa,dk]
  refine Qc hb ?_
  simp only[go_sem,simprocAttr,Qa]
  refine Q5 hb lY rfl ?_ (oC RT I2) rfl fun d BS hR=>?_
  ·simp only[go_sem,simprocAttr]
  obtain ⟨rfl,hO,g11,rfl⟩:=hR
  have Tx:=Ck.step (own':=Zg Xc H .on) (h':=H++g11) fun l hl _=>⟨qo hl,QU hl⟩
  have D11:=Dk.trans (Q6.app Xc H g11 .on)
  have As:W6 (fun l=>Zg Xc H .on l=.on) (H++g11) (H.length+3) T2 []:=hO.step fun l _ hl=>⟨by unfold Zg;rw[if_pos hl],rfl⟩
  have C12:=Tx.Qpd As
  have G7:=D11.trans (Q6.set (own:=Zg Xc H .on) (h:=H++g11) (l:=p) (XD (KO M T2).lk L2.t L2.b (H.length+3) L2.v L2.m (KO M T2).Zx (KO M T2).acc) (by rw[Tx.op];decide))
  have DX:Q4 _ _ p { L2 with o:=H.length+3 } (WT M T2):=C12.congrN (N:=Xd M T2) (BH I I2)
  have DY:Qy (WT M T2):=No I I2 K2 Va ja yS
  have G8:=Tx.ob
  have QpO:=Qd G8
  generalize YF:(KO M T2).lk=Tz at DX G7 G8
  generalize QuI:(KO M T2).Zx=tz at DX G7 G8
  generalize Qoy:(KO M T2).acc=tA at DX G7 G8
  generalize QpP:(H++g11).set p (XD Tz L2.t L2.b (H.length+3) L2.v L2.m tz tA)=TA at DX G7
  have QpQ:(H++g11).set p ⟨.one,0,9,1,fun _=>[.raw (.int .i64 Tz.t),.raw (.int .i64 Tz.VJ),.ptr L2.t 0 0 0,.mref L2.b 0,.ptr (H.length+3) 0 0 0,.ptr L2.v 0 0 0,.mref L2.m 0,.raw (.int .u64 (tz:Nat)),.raw (.int .u64 (tA:Nat))]⟩=TA:=QpP
  refine Qc hb ?_
  simp only[go_sem,simprocAttr,Qa,G8,QpO,QpQ]
  refine QL hb OW rfl ?_ (Tl DX.ro DY) rfl fun d hR=>?_
  ·simp only[go_sem,simprocAttr,Qa]
  subst hR
  refine Qc hb ?_
  simp only[go_sem,simprocAttr,Qa]
  obtain ⟨ll,Wy⟩:∃ ll,ll=JZ (WT M T2):=⟨_,rfl⟩
  have QuJ:ll.length≤64:=by rw[Wy];exact sV DY
  rw[← Wy]
  refine ZB (fun k st=>∃ BE H3,Q4 BE H3 p { L2 with o:=H.length+3 } { WT M T2 with A:=(ll.take k).foldl (YM T2) [] }∧Qy { WT M T2 with A:=(ll.take k).foldl (YM T2) [] }∧Q6 own h BE H3∧st=⟨[(0,.ptr p 0 0 0),(6,Qb 0),(7,Qb 0),(122,ints ll),(123,Qb ll.length),(124,Qb k)],H3⟩) ll.length (s0:=⟨[(0,.ptr p 0 0 0),(6,Qb 0),(7,Qb 0),(122,ints ll),(123,Qb ll.length),(124,Qb 0)],TA⟩) (Ql.frame (by simp only[go_sem,simprocAttr])) ⟨_,TA,DX,DY,G7,rfl⟩ ?_
  rintro k st hk ⟨BE,H3,yT,BI,TB,rfl⟩
  by_cases zG:k<ll.length
  ·have TC:=decide_eq_true zG
   obtain ⟨id,QX⟩:∃ id,id=ll.getD k 0:=⟨_,rfl⟩
   have Zl:=KG (show k<4611686018427387904 by omega)
   obtain ⟨Ak,TD⟩:∃ Ak,Ak=(ll.take k).foldl (YM T2) []:=⟨_,rfl⟩
   have Zt:(ll.take (k+1)).foldl (YM T2) []=YM T2 Ak id:=by
    rw[List.take_add_one,List.getElem?_eq_getElem zG,List.foldl_append,← TD,QX,List.getD_eq_getElem?_getD,List.getElem?_eq_getElem zG];rfl
   rw[← TD] at yT BI
   have QpR:id∈JZ (WT M T2):=by rw[← Wy,QX];exact Ng zG
   obtain ⟨nd,hn,X3,OB⟩:=Nh DY (id:=id) (Qpr QpR)
   have Ks:Qr T2 id=some nd.c:=by have:=DY.some hn;rwa [show (WT M T2).T=T2 from DW] at this
   have WI:YM T2 Ak id=if 1<QH nd.c.ls then id::Ak else Ak:=by unfold YM;rw[Ks];rfl
   have JL:Zu T2 Ak id=false:=by
    rw[Bool.eq_false_iff]
    intro h9
    have h8:=(MQ I2 Ks X3 Ak).1 h9
    rw[TD] at h8
    rcases tj _ _ h8 with h7 | h7
    ·have ZI:ll.Nodup:=by rw[Wy];exact Qpt DY
     rw[QX] at h7
     exact Qpq ZI zG h7
    ·cases h7
   have Vz:=yT.ob
   have Yb:=Qd Vz
   refine Qc hb ?_
   simp only[go_sem,simprocAttr,Qa,TC,zG,← QX,Vz,Yb]
   by_cases hs:1<QH nd.c.ls
   ·rw[if_pos hs] at WI
    refine Q5 hb OX rfl ?_ (ox yT.Wn I2 (by have:=BI.Wp;rwa [show ({ WT M T2 with A:=Ak }:Qj).T=T2 from DW] at this) id nd.c Ks X3 hs JL) rfl fun d h4 hR=>?_
    ·simp only[go_sem,simprocAttr]
    obtain ⟨d1,rfl,jD,O4,s4⟩:=hR
    have C4:=yT.act O4 s4
    have I4:Qy { WT M T2 with A:=id::Ak }:=BI.act (fun a ha=>by
     rcases List.mem_cons.1 ha with e | e
     ·exact ⟨nd.c,by rw[e,show ({ WT M T2 with A:=Ak }:Qj).T=T2 from DW];exact Ks,X3,hs⟩
     ·exact BI.Wp a e)
    have D4:=TB.trans (Q6.of (t:=.on) (by simp) s4)
    refine Qc hb ?_
    simp only[go_sem,simprocAttr,Qa]
    exact ⟨zG,_,Ql.frame (by simp only[go_sem,simprocAttr,Zl]),_,h4,by rw[Zt,WI];exact C4,by rw[Zt,WI];exact I4,D4,rfl⟩
   ·rw[if_neg hs] at WI
    refine Q5 hb OX rfl ?_ (Qpp yT.Wn id nd.c Ks hs) rfl fun d h4 hR=>?_
    ·simp only[go_sem,simprocAttr]
    obtain ⟨rfl,rfl⟩:=hR
    refine Qc hb ?_
    simp only[go_sem,simprocAttr,Qa]
    exact ⟨zG,_,Ql.frame (by simp only[go_sem,simprocAttr,Zl]),BE,h4,by rw[Zt,WI];exact yT,by rw[Zt,WI];exact BI,TB,rfl⟩
  ·have hk4:k=ll.length:=by omega
   subst hk4
   have TC:decide (ll.length<ll.length)=false:=decide_eq_false (by omega)
   have e1:q8 M b l=0:=by unfold q8;rw[if_neg (by rw[hE];simp),← BF,if_neg (by rw[Va];exact Bool.false_ne_true)]
   have e2:xw M l=0:=by unfold xw;rw[if_neg (by rw[hE];simp)]
   have e3:Xe M b l={ WT M T2 with A:=ll.foldl (YM T2) [] }:=by unfold Xe;rw[if_pos e1,← BF,Wy];rfl
   rw[List.take_length,← e3] at yT BI
   refine Qc hb ?_
   simp only[go_sem,simprocAttr,Qa,TC]
   refine Qc hb ?_
   simp only[go_sem,simprocAttr,Qa]
   exact ⟨BE,_,_,yT,BI,TB,by rw[e1,e2];rfl,rfl⟩
section
variable {h:List Ob} {p:Nat} {L:Loc} {M:Qj} (C:YK h p L M)
include C
theorem QpT:QQ Tryz.prog 24 h [.ptr p 0 0 0] (fun d=>d=u64 M.acc):=by
 have ho:=C.ob
 refine Zh Qe 200 Tryz.func24 rfl Tryz.ntmps24 Tryz.results24 rfl fun base w pl F hF QR hb=>?_
 rw[← hF] at ho
 have Qf:=Qd ho
 simp only[go_sem,simprocAttr,Qa,ho,Qf]
 exact ⟨[],(List.append_nil F).symm⟩
def tB (L:List It):Nat:=match L.head? with
 | some x=>min x.ka never
 | none=>never
def Np (M:Qj):Nat:=min (tB M.Lv) (Bb (M.KT 0))
theorem QpU (I:Qy M):QQ Tryz.prog 13 h [.ptr p 0 0 0] (fun d=>d=u64 (Np M)):=by
 have ho:=C.ob
 have hm:=C.J3
 have vW:M.ks 0=true:=(I.ks 0).2 (.inl rfl)
 have Xb:=C.Vo.at_ 0
 rw[if_pos vW] at Xb
 have hK:=C.kids 0 vW
 refine Zh Qe 200 Tryz.func13 rfl Tryz.ntmps13 Tryz.results13 rfl fun base w pl F hF QR hb=>?_
 rw[← hF] at ho hm
 have Qf:=Qd ho
 have QP:=Qd hm
 simp only[go_sem,simprocAttr,Qa,ho,Qf,hm,QP,Xb]
 refine QA Qe hb 200 mixed [(0,true),(1,true),(2,true),(3,true),(5,true),(6,true),(7,true),(8,true),(9,true),(4,false),(10,false),(11,true),(12,true)] (by kernel_rfl) (by kernel_rfl) ?_
 simp only[go_sem,simprocAttr,Qa,ho,Qf,hm,QP,Xb]
 have hN:QQ Tryz.prog 32 F [.ptr L.v 0 0 0] (fun d=>d=u64 (tB M.Lv)):=QkW (C.Vn.more (JM hF))
 refine Ju hb QhL rfl ?_ hN rfl fun d hR=>?_
 ·simp only[go_sem,simprocAttr,Qa,ho,Qf]
 subst hR
 refine QF hb ?_
 simp only[go_sem,simprocAttr,Qa,ho,Qf]
 refine Ju hb lV rfl ?_ (oI (hK.more (JM hF)) (I.YG 0)) rfl fun d hR=>?_
 ·simp only[go_sem,simprocAttr,Qa,ho,Qf]
 subst hR
 refine QF hb ?_
 simp only[go_sem,simprocAttr,Qa,ho,Qf]
 refine ⟨[],(List.append_nil F).symm,?_⟩
 unfold Np
 rw[Nat.min_def,Int.min_def]
 congr 2
 split <;> split <;> omega
end
def tC:List D:=(default:Qi).cells++(QN false::u64 0::((default:Du).cells++((default:Sh).cells++((default:Cp).cells++(u64 0::(⟨[],0,0,0,0,0,0⟩:Qu).cts)))))
theorem QpV (h:List Ob):QQ Tryz.prog 24 h [.raw (.pointer none)] (fun d=>d=u64 0):=by
 refine V1 Qe 200 Tryz.func24 rfl Tryz.ntmps24 Tryz.results24 rfl fun base w pl F hF QR hb=>?_
 simp only[go_sem,simprocAttr,Qa]
 exact ⟨[],(List.append_nil F).symm⟩
theorem QpW (h:List Ob):QQ Tryz.prog 13 h [.raw (.pointer none)] (fun d=>d=u64 9223372036854775808):=by
 refine V1 Qe 200 Tryz.func13 rfl Tryz.ntmps13 Tryz.results13 rfl fun base w pl F hF QR hb=>?_
 simp only[go_sem,simprocAttr,Qa]
 exact ⟨[],(List.append_nil F).symm⟩
theorem QpX (h:List Ob):QQ Tryz.prog 26 h [.raw (.pointer none)] (fun d=>d=.agg (default:Cf).cells):=by
 refine V1 Qe 200 Tryz.func26 rfl Tryz.ntmps26 Tryz.results26 rfl fun base w pl F hF QR hb=>?_
 simp only[go_sem,simprocAttr,Qa]
 exact ⟨_,rfl,rfl⟩
theorem QpY (h:List Ob):QQ Tryz.prog 20 h [.raw (.pointer none)] (fun d=>d=.raw (.pointer none)):=by
 refine V1 Qe 200 Tryz.func20 rfl Tryz.ntmps20 Tryz.results20 rfl fun base w pl F hF QR hb=>?_
 simp only[go_sem,simprocAttr,Qa]
 exact ⟨[],(List.append_nil F).symm⟩
theorem QpZ (h:List Ob) (id:Int):QQ Tryz.prog 18 h [.raw (.pointer none),Qb id] (fun d=>d=.nil):=by
 refine V1 Qe 200 Tryz.func18 rfl Tryz.ntmps18 Tryz.results18 rfl fun base w pl F hF QR hb=>?_
 simp only[go_sem,simprocAttr,Qa]
 exact ⟨[],(List.append_nil F).symm⟩
theorem Qp0 (h:List Ob):QQ Tryz.prog 25 h [.raw (.pointer none)] (fun d=>d=.tup [Qb 0,Qb 0]):=by
 refine V1 Qe 200 Tryz.func25 rfl Tryz.ntmps25 Tryz.results25 rfl fun base w pl F hF QR hb=>?_
 simp only[go_sem,simprocAttr,Qa]
 exact ⟨[],(List.append_nil F).symm⟩
theorem Qp1 (h:List Ob) (id:Int):QQ Tryz.prog 22 h [.raw (.pointer none),Qb id] (fun d=>d=.tup [.agg tC,Qb 7]):=by
 refine V1 Qe 200 Tryz.func22 rfl Tryz.ntmps22 Tryz.results22 rfl fun base w pl F hF QR hb=>?_
 simp only[go_sem,simprocAttr,Qa]
 exact ⟨_,rfl,rfl⟩
theorem Qp2 (h:List Ob) (now:Nat) (id:Int) (x:Pk):QQ Tryz.prog 16 h [.raw (.pointer none),u64 now,Qb id,.agg x.cells] (fun d=>d=Qb 7):=by
 refine V1 Qe 200 Tryz.func16 rfl Tryz.ntmps16 Tryz.results16 rfl fun base w pl F hF QR hb=>?_
 simp only[go_sem,simprocAttr,Qa]
 exact ⟨_,rfl⟩
theorem Qp3 (h:List Ob) (now:Nat):QQ Tryz.prog 14 h [.raw (.pointer none),u64 now] (fun d=>d=.tup [.agg (q6 0 default false),QN false]):=by
 refine V1 Qe 200 Tryz.func14 rfl Tryz.ntmps14 Tryz.results14 rfl fun base w pl F hF QR hb=>?_
 simp only[go_sem,simprocAttr,Qa]
 exact ⟨_,rfl,rfl⟩
theorem Qp4 (h:List Ob) (b:Bool) (l:List ZP):QQ Tryz.prog 17 h [.raw (.pointer none),QN b,DF l] (fun d=>d=.tup [Qb 0,Qb 7]):=by
 refine V1 Qe 200 Tryz.func17 rfl Tryz.ntmps17 Tryz.results17 rfl fun base w pl F hF QR hb=>?_
 simp only[go_sem,simprocAttr,Qa]
 exact ⟨[],(List.append_nil F).symm⟩
def TE (l:List Pk):D:=.imm 6 l.length (Pk.rows l)
def tD (n:Nat) (H:List Ob) (d:D) (L:List Pk):Prop:=(d=.nil∧L=[])∨∃ lo g row,d=.ref lo g 0 L.length∧n≤lo∧H[lo]? = some ⟨.arr,g,6,L.length,row⟩∧∀ i,i<L.length→row i=(L.getD i default).cells
theorem tD.closed {P:Program} {f:FuncId} {h:List Ob} {args:List D} {L:List Pk} (H:Kp P f h args (fun d g=>tD h.length (h++g) d L)):QQ P f h args (fun d=>d=TE L):=by
 refine P3 (TE L) (fun _=>rfl) ?_ H
 rintro d g (⟨rfl,h3⟩ | ⟨lo,gn,row,rfl,Zp,ho,hr⟩)
 ·subst h3
  exact .inl rfl
 ·refine .inr ⟨lo,gn,6,_,row,Zp,ho,fun i hi=>?_,?_⟩
  ·rw[hr i hi];rfl
  ·have e1:D.fz lo gn L.length 6 row (.ref lo gn 0 L.length)=.imm 6 L.length (rowFrom 0 row):=by simp [D.fz,E6]
   rw[e1]
   simp only[TE]
   rw[Fo]
   refine ⟨rfl,rfl,fun i hi=>?_⟩
   rw[Fk,Nat.zero_add,hr i hi,Pk.kS]
   exact yd (yf _) _
end Go.Fg.X
namespace Go.Fg.X
open Go.Proofs Go.Fg
end Go.Fg.X
namespace Go.Fg.X
open Go.Proofs Go.Fg
def lnI (M:Qj) (id:Int):Nat:=(QC M id).q.l.length
def byI (M:Qj) (id:Int):Nat:=Vk (QC M id).q.l
def tE (f:Int→Nat) (l:List Int):Nat:=(l.map f).sum
structure QuK (p m c:Nat) (es:List QK) (M:Qj) (F:List Ob) (n:Nat) (s:St):Prop where
 ex:∃ seen out H,qH es seen=n∧JY F H∧out.Perm ((es.filter fun e=>seen.contains e.b && true).map (·.k))∧H[F.length]? = some (Vp m c c seen) ∧
  s=⟨[(0,.ptr p 0 0 0),(4,Qb (tE (lnI M) out)),(5,Qb (tE (byI M) out)),(14,.mref F.length 0)],H⟩
structure Good (M:Qj):Prop where
 lv:∀ x∈M.Lv,∃ n,Qh M.N x.ki=some n∧n.c.leaf=true∧n.q.l≠[]
 kt:∀ id,∀ x∈M.KT id,ZW M x.ki=true
 act:∀ id,id∈M.A↔∃ n,Qh M.N id=some n∧n.c.leaf=true∧n.q.l≠[]∧1<QH n.c.ls
section
variable {M:Qj} (I:Qy M) (G:Good M)
include I G
theorem Good.tF {id:Int} {n:Nd} (hn:Qh M.N id=some n) (hl:n.c.leaf=true) (hq:n.q.l≠[]):id∈JZ M:=by
 have hc:=I.some hn
 obtain ⟨h1,h2⟩:=(KQ I.tree.rising).1 hc
 refine List.mem_filter.2 ⟨List.mem_map.2 ⟨n.c,List.mem_filter.2 ⟨h1,hl⟩,h2⟩,?_⟩
 unfold xv QC
 rw[hn]
 cases zQ:n.q.l with
 | nil=>exact absurd zQ hq
 | cons x l=>simp [zQ]
theorem Good.hA (cls:Int):∀ n,Qh M.N cls=some n→n.c.leaf=true→n.q.l=[]→cls ∉ M.A:=fun n hn hl hq ha=>by
 obtain ⟨m,hm,_,h3,_⟩:=(G.act cls).1 ha
 rw[hn] at hm
 cases hm
 exact h3 hq
theorem Good.ja:∀ x∈M.Lv,x.ki∈JZ M:=fun x hx=>by
 obtain ⟨n,h1,h2,h3⟩:=G.lv x hx
 exact Good.tF I G h1 h2 h3
theorem Good.yS:∀ id,∀ x∈M.KT id,∃ n∈JZ M,x.ki∈up M.T n:=fun id x hx=>by
 obtain ⟨a,ha,hu⟩:=VM.1 (G.kt id x hx)
 obtain ⟨n,h1,h2,h3,_⟩:=(G.act a).1 ha
 exact ⟨a,Good.tF I G h1 h2 h3,hu⟩
theorem Good.leaf {id:Int} {n:Nd} (hn:Qh M.N id=some n) (hl:n.c.leaf=true) (ha:ZW M id=true):n.q.l≠[]∧id∈M.A:=by
 have h1:=(MQ I.tree (I.some hn) hl M.A).1 ha
 obtain ⟨m,hm,_,h3,_⟩:=(G.act id).1 h1
 rw[hn] at hm
 cases hm
 exact ⟨h3,h1⟩
theorem Good.share (now:Nat):∀ k p id,xr M now k p=some id→∃ n,Qh M.N id=some n∧n.c.leaf=true∧ZW M id=true
 | 0,_,_,h=>by cases h
 | k+1,p,id,h=>by
  unfold xr at h
  cases hf:firstM M now p with
  | none=>rw[hf] at h;cases h
  | some x=>
   rw[hf] at h
   dsimp only at h
   have hm:x∈M.KT p:=List.mem_of_find?_eq_some hf
   split at h
   ·rename_i hl
    cases h
    have hs:=I.SF p x hm
    rw[I.find] at hs
    cases hn:Qh M.N x.ki with
    | none=>rw[hn] at hs;cases hs
    | some n=>exact ⟨n,rfl,by unfold QC at hl;rw[hn] at hl;exact hl,G.kt p x hm⟩
   ·exact Good.share now k x.ki id h
theorem Good.SY (now:Nat):∀ o id r,vC M now o→J7 M now o=some (id,r)→∃ n,Qh M.N id=some n∧n.c.leaf=true∧n.q.l≠[]∧(1<QH n.c.ls→id∈M.A):=fun o id r ho hp=>by
 cases o with
 | some x=>
  simp only[J7,Option.some.injEq,Prod.mk.injEq] at hp
  obtain ⟨rfl,rfl⟩:=hp
  have hx:x∈M.Lv:=(List.mem_filter.1 ho.1).1
  obtain ⟨n,h1,h2,h3⟩:=G.lv x hx
  exact ⟨n,h1,h2,h3,fun h4=>(G.act x.ki).2 ⟨n,h1,h2,h3,h4⟩⟩
 | none=>
  simp only[J7,Option.map_eq_some_iff] at hp
  obtain ⟨i,hi,he⟩:=hp
  cases he
  obtain ⟨n,h1,h2,h3⟩:=Good.share I G now 17 0 _ hi
  obtain ⟨h4,h5⟩:=Good.leaf I G h1 h2 h3
  exact ⟨n,h1,h2,h4,fun _=>h5⟩
omit I in
theorem Good.told (now:Nat):Good (Zq M now):=by
 unfold Zq
 split
 ·exact ⟨G.lv,G.kt,G.act⟩
 ·exact G
end
theorem Good.Jo {M:Qj} (G:Good M) (id:Int):Good (Jo M id):=by
 unfold X.Jo
 split
 ·rename_i ha
  refine ⟨G.lv,fun j x hx=>?_,G.act⟩
  show ZW M x.ki=true
  dsimp only at hx
  split at hx
  ·rcases GG hx with e | e
   ·rw[e];exact ha
   ·exact G.kt _ x e
  ·exact G.kt j x hx
 ·exact G
theorem Good.JT:∀ (l:List Int) {M:Qj},Good M→Good (JT M l)
 | [],M,G=>G
 | id::l,M,G=>Good.JT l (G.Jo id)
theorem Good.Qp7 {M M':Qj} (G:Good M) (hL:M'.Lv=M.Lv) (hK:M'.KT=M.KT) (hT:M'.T=M.T) (hA:M'.A=M.A) (hN:∀ id,(Qh M'.N id).map (fun n=>(n.c,n.q))=(Qh M.N id).map (fun n=>(n.c,n.q))):Good M':=by
 have key:∀ {N N':List Nd} (id:Int) (P:Qi→Qu→Prop),(Qh N' id).map (fun n=>(n.c,n.q))=(Qh N id).map (fun n=>(n.c,n.q))→(∃ n,Qh N id=some n∧P n.c n.q)→∃ n,Qh N' id=some n∧P n.c n.q:=fun {N N'} id P e ⟨n,h1,h2⟩=>by
  rw[h1] at e
  obtain ⟨m,h3,h4⟩:=Option.map_eq_some_iff.1 e
  have h5:m.c=n.c:=congrArg Prod.fst h4
  have h6:m.q=n.q:=congrArg Prod.snd h4
  exact ⟨m,h3,by rw[h5,h6];exact h2⟩
 refine ⟨fun x hx=>?_,fun id x hx=>?_,fun id=>?_⟩
 ·exact key x.ki (fun c q=>c.leaf=true∧q.l≠[]) (hN _) (G.lv x (by rw[← hL];exact hx))
 ·unfold ZW
  rw[hT,hA]
  exact G.kt id x (by rw[← hK];exact hx)
 ·rw[hA,G.act id]
  exact ⟨fun h=>key id (fun c q=>c.leaf=true∧q.l≠[]∧1<QH c.ls) (hN _) h,fun h=>key id (fun c q=>c.leaf=true∧q.l≠[]∧1<QH c.ls) (hN _).symm h⟩
theorem Good.hold {M M':Qj} (G:Good M) (hL:M'.Lv=M.Lv) (hK:M'.KT=M.KT) (hT:M'.T=M.T) (hA:M'.A=M.A) (hN:∀ id,(Qh M'.N id).map (fun n=>(n.c,n.q.l.isEmpty))=(Qh M.N id).map (fun n=>(n.c,n.q.l.isEmpty))):Good M':=by
 have ne:∀ l:List Pk,l≠[]↔l.isEmpty=false:=fun l=>by cases l <;> simp
 have key:∀ {N N':List Nd} (id:Int) (P:Qi→Bool→Prop),(Qh N' id).map (fun n=>(n.c,n.q.l.isEmpty))=(Qh N id).map (fun n=>(n.c,n.q.l.isEmpty))→(∃ n,Qh N id=some n∧P n.c n.q.l.isEmpty)→∃ n,Qh N' id=some n∧P n.c n.q.l.isEmpty:=fun {N N'} id P e ⟨n,h1,h2⟩=>by
  rw[h1] at e
  obtain ⟨m,h3,h4⟩:=Option.map_eq_some_iff.1 e
  have h5:m.c=n.c:=congrArg Prod.fst h4
  have h6:m.q.l.isEmpty=n.q.l.isEmpty:=congrArg Prod.snd h4
  exact ⟨m,h3,by rw[h5,h6];exact h2⟩
 refine ⟨fun x hx=>?_,fun id x hx=>?_,fun id=>?_⟩
 ·obtain ⟨n,h1,h2,h3⟩:=G.lv x (by rw[← hL];exact hx)
  obtain ⟨m,h4,h5,h6⟩:=key x.ki (fun c b=>c.leaf=true∧b=false) (hN _) ⟨n,h1,h2,(ne _).1 h3⟩
  exact ⟨m,h4,h5,(ne _).2 h6⟩
 ·unfold ZW
  rw[hT,hA]
  exact G.kt id x (by rw[← hK];exact hx)
 ·rw[hA,G.act id]
  constructor
  ·rintro ⟨n,h1,h2,h3,h4⟩
   obtain ⟨m,k1,k2,k3,k4⟩:=key id (fun c b=>c.leaf=true∧b=false∧1<QH c.ls) (hN _) ⟨n,h1,h2,(ne _).1 h3,h4⟩
   exact ⟨m,k1,k2,(ne _).2 k3,k4⟩
  ·rintro ⟨n,h1,h2,h3,h4⟩
   obtain ⟨m,k1,k2,k3,k4⟩:=key id (fun c b=>c.leaf=true∧b=false∧1<QH c.ls) (hN _).symm ⟨n,h1,h2,(ne _).1 h3,h4⟩
   exact ⟨m,k1,k2,(ne _).2 k3,k4⟩
theorem Good.push {M:Qj} (G:Good M) (id:Int) (x:Pk) (h:WK (QC M id).c.Za (QC M id).c.bytes (QC M id).q x=true∨(QC M id).q.l≠[]):Good (JG M id x):=by
 refine G.hold rfl rfl rfl rfl fun j=>?_
 unfold JG
 dsimp only
 rw[Wo (f:=fun m:Nd=>{ m with q:=Kx (QC M id).c.Za (QC M id).c.bytes (QC M id).q x }) (fun _=>rfl)]
 by_cases e:j=id
 ·subst e
  rw[if_pos rfl]
  cases hn:Qh M.N j with
  | none=>rfl
  | some n=>
   have ZI:QC M j=n:=by unfold QC;rw[hn];rfl
   rw[ZI] at h ⊢
   simp only[Option.map_some,Option.some.injEq,Prod.mk.injEq,true_and]
   unfold Kx
   rcases h with h | h
   ·rw[if_pos h]
   ·split
    ·rfl
    ·cases hq:n.q.l with
     | nil=>exact absurd hq h
     | cons y l=>simp [hq]
 ·rw[if_neg e]
theorem Good.tG (now:Nat):∀ (l:List Int) {M:Qj},Good M→Good (l.foldl (KM now) M)
 | [],M,G=>G
 | j::l,M,G=>by
  refine Good.tG now l (G.Qp7 rfl rfl rfl rfl fun id=>?_)
  unfold KM
  dsimp only
  rw[Wo (f:=zV M now) (fun n=>by unfold zV;rfl)]
  split
  ·cases Qh M.N id with
   | none=>rfl
   | some n=>unfold zV;rfl
  ·rfl
theorem Good.Qp8 {M M1:Qj} (G:Good M) {id:Int} {n1:Nd} (Jb:Qh M1.N id=some n1) (hl:n1.c.leaf=true) (hq:n1.q.l≠[]) (XM:∀ j,j≠id→Qh M1.N j=Qh M.N j)
  (hL:M1.Lv=M.Lv) (hK:M1.KT=M.KT) (hT:M1.T=M.T) (hA:M1.A=M.A) (JL:id ∉ M.A) (now:Nat) (head:Int) :
  Good { Jy M1 now id head with A:=if 1<QH n1.c.ls then id::M.A else M.A }:=by
 have ZI:QC M1 id=n1:=by unfold QC;rw[Jb];rfl
 have QX:=Qy.id Jb
 have hN:∀ j,(Qh (Jy M1 now id head).N j).map (fun n=>(n.c,n.q))=(Qh M1.N j).map (fun n=>(n.c,n.q)):=fun j=>by
  unfold Jy
  split
  ·dsimp only
   rw[Wo (f:=fun n:Nd=>{ n with du:=W8 (QC M1 id).du (Jl (QC M1 id).c.rt) now head }) (fun _=>rfl)]
   split
   ·cases Qh M1.N j <;> rfl
   ·rfl
  ·rfl
 have get:∀ j n,Qh M1.N j=some n→∃ m,Qh (Jy M1 now id head).N j=some m∧m.c=n.c∧m.q=n.q:=fun j n hn=>by
  have:=hN j
  rw[hn] at this
  obtain ⟨m,h1,h2⟩:=Option.map_eq_some_iff.1 this
  exact ⟨m,h1,congrArg Prod.fst h2,congrArg Prod.snd h2⟩
 have tg:∀ j m,Qh (Jy M1 now id head).N j=some m→∃ n,Qh M1.N j=some n∧m.c=n.c∧m.q=n.q:=fun j m hm=>by
  have:=hN j
  rw[hm] at this
  obtain ⟨n,h1,h2⟩:=Option.map_eq_some_iff.1 this.symm
  exact ⟨n,h1,(congrArg Prod.fst h2).symm,(congrArg Prod.snd h2).symm⟩
 have yS:(Jy M1 now id head).KT=M.KT:=by unfold Jy;split <;> exact hK
 have Oq:(Jy M1 now id head).T=M.T:=by unfold Jy;split <;> exact hT
 have one:∃ n,Qh (Jy M1 now id head).N id=some n∧n.c.leaf=true∧n.q.l≠[]:=by
  obtain ⟨m,h1,h2,h3⟩:=get id n1 Jb
  exact ⟨m,h1,by rw[h2];exact hl,by rw[h3];exact hq⟩
 refine ⟨fun x hx=>?_,fun j x hx=>?_,fun j=>?_⟩
 ·show ∃ n,Qh (Jy M1 now id head).N x.ki=some n∧n.c.leaf=true∧n.q.l≠[]
  have KD:x.ki=id∨x∈M.Lv:=by
   have wT:x∈(Jy M1 now id head).Lv:=hx
   unfold Jy at wT
   split at wT
   ·rcases GG wT with e | e
    ·exact .inl e
    ·exact .inr (by rw[← hL];exact e)
   ·exact .inr (by rw[← hL];exact wT)
  by_cases e:x.ki=id
  ·rw[e];exact one
  ·obtain ⟨n,h1,h2,h3⟩:=G.lv x (KD.resolve_left e)
   rw[← XM _ e] at h1
   obtain ⟨m,k1,k2,k3⟩:=get _ n h1
   exact ⟨m,k1,by rw[k2];exact h2,by rw[k3];exact h3⟩
 ·have KD:x∈M.KT j:=by rw[← yS];exact hx
  have h1:=G.kt j x KD
  show Zu (Jy M1 now id head).T _ x.ki=true
  rw[Oq]
  obtain ⟨a,ha,hu⟩:=VM.1 h1
  exact VM.2 ⟨a,by dsimp only;split <;> simp [ha],hu⟩
 ·show j∈(if 1<QH n1.c.ls then id::M.A else M.A)↔∃ n,Qh (Jy M1 now id head).N j=some n∧n.c.leaf=true∧n.q.l≠[]∧1<QH n.c.ls
  by_cases e:j=id
  ·subst e
   constructor
   ·intro hj
    by_cases hs:1<QH n1.c.ls
    ·obtain ⟨m,h1,h2,h3⟩:=get j n1 Jb
     exact ⟨m,h1,by rw[h2];exact hl,by rw[h3];exact hq,by rw[h2];exact hs⟩
    ·rw[if_neg hs] at hj
     exact absurd hj JL
   ·rintro ⟨m,h1,h2,h3,h4⟩
    obtain ⟨n,k1,k2,k3⟩:=tg j m h1
    rw[Jb] at k1
    cases k1
    rw[k2] at h4
    rw[if_pos h4]
    exact List.mem_cons_self
  ·have e1:j∈(if 1<QH n1.c.ls then id::M.A else M.A)↔j∈M.A:=by split <;> simp [e]
   rw[e1,G.act j]
   constructor
   ·rintro ⟨n,h1,h2,h3,h4⟩
    rw[← XM _ e] at h1
    obtain ⟨m,k1,k2,k3⟩:=get _ n h1
    exact ⟨m,k1,by rw[k2];exact h2,by rw[k3];exact h3,by rw[k2];exact h4⟩
   ·rintro ⟨m,h1,h2,h3,h4⟩
    obtain ⟨n,k1,k2,k3⟩:=tg j m h1
    rw[XM _ e] at k1
    exact ⟨n,k1,by rw[← k2];exact h2,by rw[← k3];exact h3,by rw[← k2];exact h4⟩
theorem Good.acc {M:Qj} (G:Good M) (a:Nat):Good (Ws M a):=⟨G.lv,G.kt,G.act⟩
theorem Good.put {M:Qj} (I:Qy M) (G:Good M) (now:Nat) (cls:Int) (x:Pk):Good (VT M now cls x):=by
 unfold VT
 cases hn:Qh M.N cls with
 | none=>
  have e:Kh M cls x=23:=by unfold Kh;rw[hn]
  rw[e,if_neg (by decide),if_neg (by decide)]
  exact G
 | some n=>
  have ZI:QC M cls=n:=by unfold QC;rw[hn];rfl
  have he:Kh M cls x=if n.c.leaf=false then 29 else if x.len<1∨M.lk.VJ<x.len then 26 else if 1099511627776<M.acc+x.len.toNat then 28
   else if WK n.c.Za n.c.bytes n.q x=true then 30 else 0:=by unfold Kh;rw[hn]
  by_cases YN:Kh M cls x=30
  ·rw[if_pos YN]
   refine G.push cls x (.inl ?_)
   rw[ZI]
   rw[he] at YN
   split at YN
   ·cases YN
   ·split at YN
    ·cases YN
    ·split at YN
     ·cases YN
     ·split at YN
      ·assumption
      ·cases YN
  ·rw[if_neg YN]
   by_cases h0:Kh M cls x=0
   ·rw[if_pos h0]
    have hf:n.c.leaf=true∧WK n.c.Za n.c.bytes n.q x=false:=by
     rw[he] at h0
     split at h0
     ·cases h0
     ·rename_i h1
      split at h0
      ·cases h0
      ·split at h0
       ·cases h0
       ·split at h0
        ·cases h0
        ·rename_i h4
         exact ⟨by simpa using h1,by simpa using h4⟩
    rw[ZI]
    by_cases hq:n.q.l=[]
    ·rw[if_pos hq]
     have tH:∀ j,Qh (Ws (JG M cls x) (M.acc+x.len.toNat)).N j=if j=cls then (Qh M.N j).map (fun m=>{ m with q:=Kx n.c.Za n.c.bytes n.q x }) else Qh M.N j:=fun j=>by
      show Qh (JG M cls x).N j=_
      unfold JG
      dsimp only
      rw[ZI]
      exact Wo (f:=fun m:Nd=>{ m with q:=Kx n.c.Za n.c.bytes n.q x }) (fun _=>rfl) j
     have Jb:Qh (Ws (JG M cls x) (M.acc+x.len.toNat)).N cls=some { n with q:=Kx n.c.Za n.c.bytes n.q x }:=by rw[tH,if_pos rfl,hn];rfl
     have GU:QC (Ws (JG M cls x) (M.acc+x.len.toNat)) cls={ n with q:=Kx n.c.Za n.c.bytes n.q x }:=by unfold QC;rw[Jb];rfl
     have GA:=G.Qp8 Jb hf.1 (by unfold Kx;rw[if_neg (by rw[hf.2];exact Bool.false_ne_true)];simp) (fun j hj=>by rw[tH,if_neg hj]) rfl rfl rfl rfl (G.hA I cls n hn hf.1 hq) now x.len
     unfold j9
     rw[GU]
     dsimp only at GA ⊢
     by_cases hs:1<QH n.c.ls
     ·rw[if_pos hs] at GA ⊢
      exact Good.JT _ (Good.tG now _ GA)
     ·rw[if_neg hs] at GA ⊢
      have e:({ Jy (Ws (JG M cls x) (M.acc+x.len.toNat)) now cls x.len with A:=M.A }:Qj)=Jy (Ws (JG M cls x) (M.acc+x.len.toNat)) now cls x.len:=by
       unfold Jy;split <;> rfl
      rw[← e]
      exact GA
    ·rw[if_neg hq]
     exact (G.push cls x (.inr (by rw[ZI];exact hq))).acc _
   ·rw[if_neg h0]
    exact G
theorem Good.XG {M:Qj} (I:Qy M) (G:Good M) (now:Nat) (cls:Int) (x:Pk):Good (XG M now cls x):=by
 unfold X.XG
 split
 ·exact Good.put (BC I now) (Good.told G now) now cls x
 ·exact G
def Wt (M:Qj) (p:Int) (x:It):Prop:=∃ n,Qh M.N x.ki=some n∧n.c.parent=p∧ZW M x.ki=true∧x=⟨n.sh.time,x.ki,WN M x.ki n,x.ki⟩
def kg (M:Qj) (x:It):Prop:=∃ n,Qh M.N x.ki=some n∧n.c.leaf=true∧n.q.l≠[]∧1<QH n.c.rt∧x=⟨n.du.Vw,x.ki,n.du.dead,x.ki⟩
def vG (M:Qj):Prop:=∀ x,x∈M.Lv↔kg M x
def DZ (M:Qj):Prop:=∀ p x,x∈M.KT p↔Wt M p x
def yU (M:Qj):Prop:=∀ id,id∈M.A↔∃ n,Qh M.N id=some n∧n.c.leaf=true∧n.q.l≠[]∧1<QH n.c.ls
def vH (M:Qj):Prop:=∀ id n,Qh M.N id=some n→n.c.leaf=false→n.q=⟨[],0,0,0,0,0,0⟩
def Wu (M:Qj):Prop:=∀ id n,Qh M.N id=some n→n.Ok
def xy (M:Qj):Prop:=JF M.Lv∧∀ p,JF (M.KT p)
structure Inv (M:Qj):Prop where
 lv:vG M
 kt:DZ M
 act:yU M
 xz:vH M
 WU:xy M
 ok:Wu M
theorem Inv.Ea {M:Qj} (V:Inv M):Good M:=
 ⟨fun x hx=>by
  obtain ⟨n,h1,h2,h3,_⟩:=(V.lv x).1 hx
  exact ⟨n,h1,h2,h3⟩,fun p x hx=>by
  obtain ⟨n,_,_,h,_⟩:=(V.kt p x).1 hx
  exact h,V.act⟩
theorem Qp9 (c:Cf):Inv (M0 c):=by
 refine ⟨fun x=>?_,fun p x=>?_,fun id=>by simp [M0,Qh],fun id n h=>by simp [M0,Qh] at h,⟨by simp [M0,JF],fun p=>by simp [M0,JF]⟩,fun id n h=>by simp [M0,Qh] at h⟩
 ·simp [M0,kg,Qh]
 ·simp [M0,Wt,Qh]
theorem Qqa {a:Nat} {i:Int} {L:List It} (h:∀ x∈L,x.ki≠i):VN a i L=none:=by
 unfold VN
 rw[List.find?_eq_none]
 intro x hx hk
 exact h x hx (qb.1 hk).2
theorem TF {id:Int} {L:List It} (h:JF L):JF (JC id L):=List.Pairwise.filter _ h
theorem G9 {id:Int} {L:List It} {x:It}:x∈JC id L↔x∈L∧x.ki≠id:=by simp [JC]
theorem Nq {id:Int} {a b:Nat} {L:List It} (h:JF L):JF (Vv id a b L):=
 PF (TF h) (Qqa fun x hx=>(G9.1 hx).2)
theorem yV {id:Int} {a b:Nat} {L:List It} {x:It}:x∈Vv id a b L↔x=⟨a,id,b,id⟩∨(x∈L∧x.ki≠id):=by
 unfold Vv
 rw[yw,G9]
structure Part (M:Qj) (U:List Int):Prop where
 lv:vG M
 kt:∀ p x,x.ki ∉ U→(x∈M.KT p↔Wt M p x)
 ka:∀ p x,x∈M.KT p→x.ki∈U→ZW M x.ki=true
 act:yU M
 xz:vH M
 WU:xy M
 ok:Wu M
theorem Qqb {M:Qj} {id j:Int} {m:Nd} (h:(QC M id).c.parent≠j):WN (Jo M id) j m=WN M j m:=by
 have h2:ZW (Jo M id) j=ZW M j:=by
  obtain ⟨_,s2,_,s4,_⟩:=GF M id
  unfold ZW;rw[s2,s4]
 unfold WN
 rw[h2]
 have h3:(Jo M id).KT j=M.KT j:=by
  unfold Jo
  split
  ·dsimp only
   rw[if_neg (fun e=>h e.symm)]
  ·rfl
 rw[h3]
theorem Part.step {M:Qj} (I:Qy M) {id:Int} {n:Nd} (hn:Qh M.N id=some n) (V:Part M (id::up M.T n.c.parent)):Part (Jo M id) (up M.T n.c.parent):=by
 obtain ⟨s1,s2,s3,s4,s5,s6,s7,s8,s9⟩:=GF M id
 have ZI:QC M id=n:=by unfold QC;rw[hn];rfl
 have hA:∀ j,ZW (Jo M id) j=ZW M j:=fun j=>by unfold ZW;rw[s2,s4]
 have Ks:=I.some hn
 have JL:id ∉ up M.T n.c.parent:=by
  have:=FJ I.tree id
  rw[JQ I.tree Ks,List.nodup_cons] at this
  exact this.1
 have BV:∀ j m,Qh M.N j=some m→j ∉ up M.T n.c.parent→WN (Jo M id) j m=WN M j m:=fun j m hm hj=>Qqb fun e=>by
  rw[ZI] at e
  refine hj ?_
  rw[e]
  exact Vr I.tree (I.some hm)
 have TG:∀ p x,x.ki ∉ up M.T n.c.parent→(Wt (Jo M id) p x↔Wt M p x):=fun p x hx=>by
  unfold Wt
  rw[s1]
  constructor
  ·rintro ⟨m,h1,h2,h3,h4⟩
   exact ⟨m,h1,h2,by rw[← hA];exact h3,by rw[← BV _ m h1 hx];exact h4⟩
  ·rintro ⟨m,h1,h2,h3,h4⟩
   exact ⟨m,h1,h2,by rw[hA];exact h3,by rw[BV _ m h1 hx];exact h4⟩
 have TH:∀ p x,x∈M.KT p→x.ki=id→n.c.parent=p:=fun p x hx e=>by
  obtain ⟨c,h1,h2⟩:=I.Ya p x hx
  rw[e,Ks] at h1
  cases h1
  exact h2
 refine ⟨?_,fun p x hx=>?_,fun p x hx xA=>?_,?_,?_,?_,by unfold Wu;rw[s1];exact V.ok⟩
 ·intro x
  unfold kg
  rw[s1,s5]
  exact V.lv x
 ·rw[TG p x hx]
  by_cases e:x.ki=id
  ·cases ha:ZW M id with
   | true=>
    have hK:(Jo M id).KT=fun j=>if j=n.c.parent then Vv id n.sh.time (WN M id n) (M.KT n.c.parent) else M.KT j:=by
     unfold Jo
     rw[if_pos ha,ZI]
    rw[hK]
    dsimp only
    split
    ·rename_i hp
     subst hp
     rw[yV]
     unfold Wt
     rw[e,hn]
     constructor
     ·rintro (h | h)
      ·exact ⟨n,rfl,rfl,ha,h⟩
      ·exact absurd rfl h.2
     ·rintro ⟨m,h1,_,_,h4⟩
      cases h1
      exact .inl h4
    ·rename_i hp
     constructor
     ·intro h
      exact absurd (TH p x h e).symm hp
     ·rintro ⟨m,h1,h2,_⟩
      rw[e,hn] at h1
      cases h1
      exact absurd h2.symm hp
   | false=>
    have hK:Jo M id=M:=by unfold Jo;rw[if_neg (by rw[ha];exact Bool.false_ne_true)]
    rw[hK]
    constructor
    ·intro h
     have:=V.ka p x h (by rw[e];exact List.mem_cons_self)
     rw[e,ha] at this
     cases this
    ·rintro ⟨m,_,_,h3,_⟩
     rw[e,ha] at h3
     cases h3
  ·have xA:x.ki ∉ id::up M.T n.c.parent:=fun h=>(List.mem_cons.1 h).elim e hx
   rw[← V.kt p x xA]
   unfold Jo
   split
   ·dsimp only
    split
    ·rename_i hp
     rw[yV,hp]
     constructor
     ·rintro (h | h)
      ·exact absurd (congrArg It.ki h) e
      ·exact h.1
     ·intro h
      exact .inr ⟨h,e⟩
    ·exact Iff.rfl
   ·exact Iff.rfl
 ·rw[hA]
  have QD:x.ki≠id:=fun e=>JL (e▸xA)
  refine V.ka p x ?_ (List.mem_cons_of_mem _ xA)
  unfold Jo at hx
  split at hx
  ·dsimp only at hx
   split at hx
   ·rename_i hp
    rcases yV.1 hx with h | h
    ·exact absurd (congrArg It.ki h) QD
    ·rw[hp];exact h.1
   ·exact hx
  ·exact hx
 ·intro j
  rw[s1,s4]
  exact V.act j
 ·unfold vH
  rw[s1]
  exact V.xz
 ·refine ⟨by rw[s5];exact V.WU.1,fun p=>?_⟩
  unfold Jo
  split
  ·dsimp only
   split
   ·exact Nq (V.WU.2 _)
   ·exact V.WU.2 p
  ·exact V.WU.2 p
theorem Part.settle:∀ (k:Nat) {M:Qj} (id:Int),Qy M→(up M.T id).length=k→Part M (up M.T id)→Inv (JT M (up M.T id)):=by
 intro k
 induction k with
 | zero=>
  intro M id I hk V
  have e:=List.length_eq_zero_iff.1 hk
  rw[e] at V ⊢
  exact ⟨V.lv,fun p x=>V.kt p x (by simp),V.act,V.xz,V.WU,V.ok⟩
 | succ k ih=>
  intro M id I hk V
  cases hf:Qr M.T id with
  | none=>rw[FH I.tree hf] at hk;cases hk
  | some c=>
   obtain ⟨n,hn,rfl⟩:=I.MD hf
   have e:=JQ I.tree hf
   rw[e] at hk V ⊢
   obtain ⟨s1,s2,_⟩:=GF M id
   have V2:=V.step I hn
   have I2:=rW I hn (V.ok _ _ hn)
   show Inv (JT (Jo M id) (up M.T n.c.parent))
   rw[← s2] at V2 ⊢
   exact ih n.c.parent I2 (by rw[s2];simpa using hk) V2
theorem vI {α:Type} {key:Nd→α} {N N':List Nd} {id:Int} (e:(Qh N' id).map key=(Qh N id).map key) {n:Nd} (h:Qh N id=some n):∃ m,Qh N' id=some m∧key m=key n:=by
 rw[h] at e
 exact Option.map_eq_some_iff.1 e
def q9 (n:Nd):Qi × Nat × Nat:=(n.c,n.sh.time,n.cp.fit)
def yW (n:Nd):Qi × Bool × Nat × Nat:=(n.c,n.q.l.isEmpty,n.du.Vw,n.du.dead)
def za (n:Nd):Qi × Bool:=(n.c,n.q.l.isEmpty)
theorem Eb {l:List Pk}:l≠[]↔l.isEmpty=false:=by cases l <;> simp
theorem kg.to {M M':Qj} {x:It} (h:(Qh M'.N x.ki).map yW=(Qh M.N x.ki).map yW):kg M x→kg M' x:=fun ⟨n,h1,h2,h3,h4,h5⟩=>by
 obtain ⟨m,k1,k2⟩:=vI h h1
 simp only[yW,Prod.mk.injEq] at k2
 obtain ⟨e1,e2,e3,e4⟩:=k2
 exact ⟨m,k1,by rw[e1];exact h2,Eb.2 (by rw[e2];exact Eb.1 h3),by rw[e1];exact h4,by rw[e3,e4];exact h5⟩
theorem vG.of {M M':Qj} (V:vG M) (hL:M'.Lv=M.Lv) (hN:∀ id,(Qh M'.N id).map yW=(Qh M.N id).map yW):vG M':=fun x=>by
 rw[hL,V x]
 exact ⟨kg.to (hN _),kg.to (hN _).symm⟩
theorem vG.at_ {M M':Qj} (V:vG M) {id:Int} {m:Nd} (hm:Qh M'.N id=some m) (hN:∀ j,j≠id→(Qh M'.N j).map yW=(Qh M.N j).map yW)
  (hL:∀ y:It,y.ki≠id→(y∈M'.Lv↔y∈M.Lv)) (hI:∀ y:It,y.ki=id→(y∈M'.Lv↔(m.c.leaf=true∧m.q.l≠[]∧1<QH m.c.rt∧y=⟨m.du.Vw,id,m.du.dead,id⟩))):vG M':=fun x=>by
 by_cases e:x.ki=id
 ·rw[hI x e]
  unfold kg
  rw[e,hm]
  constructor
  ·rintro ⟨h1,h2,h3,h4⟩
   exact ⟨m,rfl,h1,h2,h3,h4⟩
  ·rintro ⟨m2,h0,h1,h2,h3,h4⟩
   cases h0
   exact ⟨h1,h2,h3,h4⟩
 ·rw[hL x e,V x]
  exact ⟨kg.to (hN _ e),kg.to (hN _ e).symm⟩
theorem yU.at_ {M M':Qj} (V:yU M) {id:Int} {m:Nd} (hm:Qh M'.N id=some m) (hN:∀ j,j≠id→(Qh M'.N j).map za=(Qh M.N j).map za)
  (hA:∀ j,j≠id→(j∈M'.A↔j∈M.A)) (hI:id∈M'.A↔(m.c.leaf=true∧m.q.l≠[]∧1<QH m.c.ls)):yU M':=fun j=>by
 by_cases e:j=id
 ·subst e
  rw[hI,hm]
  constructor
  ·rintro ⟨h1,h2,h3⟩
   exact ⟨m,rfl,h1,h2,h3⟩
  ·rintro ⟨m2,h0,h1,h2,h3⟩
   cases h0
   exact ⟨h1,h2,h3⟩
 ·rw[hA j e,V j]
  have go:∀ {N N':List Nd},(Qh N' j).map za=(Qh N j).map za→(∃ n,Qh N j=some n∧n.c.leaf=true∧n.q.l≠[]∧1<QH n.c.ls)→∃ n,Qh N' j=some n∧n.c.leaf=true∧n.q.l≠[]∧1<QH n.c.ls:=fun {N N'} h ⟨n,h1,h2,h3,h4⟩=>by
   obtain ⟨m2,k1,k2⟩:=vI h h1
   simp only[za,Prod.mk.injEq] at k2
   obtain ⟨e1,e2⟩:=k2
   exact ⟨m2,k1,by rw[e1];exact h2,Eb.2 (by rw[e2];exact Eb.1 h3),by rw[e1];exact h4⟩
  exact ⟨go (hN _ e),go (hN _ e).symm⟩
theorem yU.of {M M':Qj} (V:yU M) (hA:M'.A=M.A) (hN:∀ id,(Qh M'.N id).map za=(Qh M.N id).map za):yU M':=fun j=>by
 rw[hA,V j]
 have go:∀ {N N':List Nd},(Qh N' j).map za=(Qh N j).map za→(∃ n,Qh N j=some n∧n.c.leaf=true∧n.q.l≠[]∧1<QH n.c.ls)→∃ n,Qh N' j=some n∧n.c.leaf=true∧n.q.l≠[]∧1<QH n.c.ls:=fun {N N'} h ⟨n,h1,h2,h3,h4⟩=>by
  obtain ⟨m2,k1,k2⟩:=vI h h1
  simp only[za,Prod.mk.injEq] at k2
  obtain ⟨e1,e2⟩:=k2
  exact ⟨m2,k1,by rw[e1];exact h2,Eb.2 (by rw[e2];exact Eb.1 h3),by rw[e1];exact h4⟩
 exact ⟨go (hN _),go (hN _).symm⟩
theorem TI {M M':Qj} {j:Int} {n m:Nd} (e:q9 m=q9 n) (ha:ZW M' j=ZW M j) (hK:M'.KT j=M.KT j):WN M' j m=WN M j n:=by
 simp only[q9,Prod.mk.injEq] at e
 unfold WN
 rw[ha,hK,e.1,e.2.2]
theorem Wt.to {M M':Qj} {p:Int} {x:It} (h:(Qh M'.N x.ki).map q9=(Qh M.N x.ki).map q9) (ha:ZW M' x.ki=ZW M x.ki) (hK:M'.KT x.ki=M.KT x.ki):Wt M p x→Wt M' p x:=fun ⟨n,h1,h2,h3,h4⟩=>by
 obtain ⟨m,k1,k2⟩:=vI h h1
 have e:=TI k2 ha hK
 simp only[q9,Prod.mk.injEq] at k2
 obtain ⟨e1,e2,e3⟩:=k2
 exact ⟨m,k1,by rw[e1];exact h2,by rw[ha];exact h3,by rw[e,e2];exact h4⟩
theorem DZ.part {M M':Qj} (V:DZ M) {U:List Int} (hK:M'.KT=M.KT) (qa:∀ j,j ∉ U→ZW M' j=ZW M j) (hN:∀ j,j ∉ U→(Qh M'.N j).map q9=(Qh M.N j).map q9) :
  ∀ p x,x.ki ∉ U→(x∈M'.KT p↔Wt M' p x):=fun p x hx=>by
 rw[hK,V p x]
 exact ⟨Wt.to (hN _ hx) (qa _ hx) (by rw[hK]),Wt.to (hN _ hx).symm (qa _ hx).symm (by rw[hK])⟩
theorem DZ.of {M M':Qj} (V:DZ M) (hK:M'.KT=M.KT) (qa:∀ j,ZW M' j=ZW M j) (hN:∀ j,(Qh M'.N j).map q9=(Qh M.N j).map q9):DZ M':=fun p x=>by
 rw[hK,V p x]
 exact ⟨Wt.to (hN _) (qa _) (by rw[hK]),Wt.to (hN _).symm (qa _).symm (by rw[hK])⟩
def TJ (n:Nd):Qi × Bool × Du × Sh × Cp:=(n.c,n.q.l.isEmpty,n.du,n.sh,n.cp)
theorem yX {α β:Type} {key:Nd→α} (f:α→β) {N N':List Nd} {id:Int} (e:(Qh N' id).map key=(Qh N id).map key):(Qh N' id).map (fun n=>f (key n))=(Qh N id).map fun n=>f (key n):=by
 have:=congrArg (Option.map f) e
 rwa [Option.map_map,Option.map_map] at this
theorem Inv.num {M M':Qj} (V:Inv M) (hL:M'.Lv=M.Lv) (hK:M'.KT=M.KT) (hT:M'.T=M.T) (hA:M'.A=M.A) (hN:∀ id,(Qh M'.N id).map TJ=(Qh M.N id).map TJ) (hq:vH M') (ho:Wu M'):Inv M':=
 ⟨V.lv.of hL fun id=>yX (fun k=>(k.1,k.2.1,k.2.2.1.Vw,k.2.2.1.dead)) (hN id),V.kt.of hK (fun j=>by unfold ZW;rw[hT,hA]) fun id=>yX (fun k=>(k.1,k.2.2.2.1.time,k.2.2.2.2.fit)) (hN id),V.act.of hA fun id=>yX (fun k=>(k.1,k.2.1)) (hN id),hq,⟨by rw[hL];exact V.WU.1,fun p=>by rw[hK];exact V.WU.2 p⟩,ho⟩
theorem Inv.told {M:Qj} (V:Inv M) (now:Nat):Inv (Zq M now):=by
 unfold Zq
 split
 ·exact ⟨V.lv,V.kt,V.act,V.xz,V.WU,V.ok⟩
 ·exact V
theorem Inv.acc {M:Qj} (V:Inv M) (a:Nat):Inv (Ws M a):=⟨V.lv,V.kt,V.act,V.xz,V.WU,V.ok⟩
theorem vJ {α:Type} {key:Nd→α} {step:Qj→Int→Qj} (hs:∀ M j id,(Qh (step M j).N id).map key=(Qh M.N id).map key):∀ (l:List Int) (M:Qj) (id:Int),(Qh (l.foldl step M).N id).map key=(Qh M.N id).map key
 | [],M,id=>rfl
 | j::l,M,id=>(vJ hs l (step M j) id).trans (hs M j id)
theorem Nr {step:Qj→Int→Qj} (hs:∀ M j id,id≠j→Qh (step M j).N id=Qh M.N id):∀ (l:List Int) (M:Qj) (id:Int),id ∉ l→Qh (l.foldl step M).N id=Qh M.N id
 | [],M,id,_=>rfl
 | j::l,M,id,h=>by
  rw[List.mem_cons,not_or] at h
  exact (Nr hs l (step M j) id h.2).trans (hs M j id h.1)
theorem TL {α:Type} {key:Nd→α} {N:List Nd} {j:Int} {f:Nd→Nd} (hc:∀ n,(f n).c=n.c) (hk:∀ n,key (f n)=key n) (id:Int):(Qh (Ka N j f) id).map key=(Qh N id).map key:=by
 rw[Wo (fun n=>by rw[hc])]
 split
 ·rw[Option.map_map]
  congr 1
  funext n
  exact hk n
 ·rfl
theorem TM {N:List Nd} {j:Int} {f:Nd→Nd} (hc:∀ n,(f n).c=n.c) (id:Int) (h:id≠j):Qh (Ka N j f) id=Qh N id:=by
 rw[Wo (fun n=>by rw[hc]),if_neg h]
theorem Ha {N:List Nd} {j:Int} {f:Nd→Nd} (hc:∀ n,(f n).c=n.c) (hf:∀ n,Qh N j=some n→n.Ok→(f n).Ok) (h:∀ id n,Qh N id=some n→n.Ok):∀ id n,Qh (Ka N j f) id=some n→n.Ok:=fun id n hn=>by
 rw[Wo (fun n=>by rw[hc])] at hn
 split at hn
 ·rename_i e
  subst e
  obtain ⟨m,h1,rfl⟩:=Option.map_eq_some_iff.1 hn
  exact hf m h1 (h _ _ h1)
 ·exact h _ _ hn
theorem tI {M M':Qj} (V:vH M) (hN:∀ id,(Qh M'.N id).map (fun n=>(n.c,n.q))=(Qh M.N id).map fun n=>(n.c,n.q)):vH M':=fun id n hn hl=>by
 obtain ⟨m,h1,h2⟩:=vI (hN id).symm hn
 have e1:m.c=n.c:=congrArg Prod.fst h2
 have e2:m.q=n.q:=congrArg Prod.snd h2
 rw[← e2]
 exact V id m h1 (by rw[e1];exact hl)
theorem Ns (M:Qj) (id:Int) (x:Pk) (j:Int):Qh (JG M id x).N j=if j=id then (Qh M.N j).map (fun m=>{ m with q:=Kx (QC M id).c.Za (QC M id).c.bytes (QC M id).q x }) else Qh M.N j:=
 Wo (f:=fun m:Nd=>{ m with q:=Kx (QC M id).c.Za (QC M id).c.bytes (QC M id).q x }) (fun _=>rfl) j
theorem Qqc {p b:Int} {q:Qu} {x:Pk} (h:WK p b q x=false):(Kx p b q x).l=q.l++[x]:=by
 unfold Kx
 rw[if_neg (by rw[h];exact Bool.false_ne_true)]
theorem tJ {M:Qj} (V:Wu M) (id:Int) (x:Pk):Wu (JG M id x):=
 Ha (f:=fun m:Nd=>{ m with q:=Kx (QC M id).c.Za (QC M id).c.bytes (QC M id).q x }) (fun _=>rfl) (fun n _ h=>⟨h.ZV,h.du,h.sh,h.cp,h.c⟩) V
theorem Qqd {M:Qj} (V:vH M) {id:Int} {n:Nd} (hn:Qh M.N id=some n) (hl:n.c.leaf=true) (x:Pk):vH (JG M id x):=fun j m hm jm=>by
 rw[Ns] at hm
 split at hm
 ·rename_i e
  subst e
  rw[hn] at hm
  cases hm
  rw[hl] at jm
  cases jm
 ·exact V j m hm jm
theorem Inv.push {M:Qj} (V:Inv M) {id:Int} {n:Nd} (hn:Qh M.N id=some n) (hl:n.c.leaf=true) (x:Pk) (h:WK n.c.Za n.c.bytes n.q x=true∨n.q.l≠[]):Inv (JG M id x):=by
 refine V.num rfl rfl rfl rfl (fun j=>?_) (Qqd V.xz hn hl x) (tJ V.ok id x)
 have ZI:QC M id=n:=by unfold QC;rw[hn];rfl
 rw[Ns,ZI]
 split
 ·rename_i e
  subst e
  rw[hn]
  have e:(Kx n.c.Za n.c.bytes n.q x).l.isEmpty=n.q.l.isEmpty:=by
   unfold Kx
   rcases h with h | h
   ·rw[if_pos h]
   ·split
    ·rfl
    ·cases hq:n.q.l with
     | nil=>exact absurd hq h
     | cons y l=>simp
  simp only[Option.map_some,TJ]
  rw[e]
 ·rfl
theorem Qqe (M:Qj) (now:Nat) (id:Int) (head:Int) (j:Int):Qh (Jy M now id head).N j=if j=id∧1<QH (QC M id).c.rt then (Qh M.N j).map (fun n=>{ n with du:=W8 (QC M id).du (Jl (QC M id).c.rt) now head }) else Qh M.N j:=by
 unfold Jy
 by_cases h:1<QH (QC M id).c.rt
 ·rw[if_pos h]
  dsimp only
  rw[Wo (f:=fun n:Nd=>{ n with du:=W8 (QC M id).du (Jl (QC M id).c.rt) now head }) (fun _=>rfl)]
  simp [h]
 ·rw[if_neg h,if_neg (fun e=>h e.2)]
theorem Qqf (now:Nat) {α:Type} {key:Nd→α} (hk:∀ M n,key (zV M now n)=key n) (M:Qj) (j id:Int):(Qh (KM now M j).N id).map key=(Qh M.N id).map key:=
 TL (f:=zV M now) (fun _=>rfl) (hk M) id
theorem tK (now:Nat):∀ (l:List Int) (M:Qj),(l.foldl (KM now) M).Lv=M.Lv
 | [],M=>rfl
 | j::l,M=>tK now l (KM now M j)
theorem Inv.Qqg {M M1:Qj} (I1:Qy M1) (V:Inv M) {id:Int} {n n1:Nd} (hn:Qh M.N id=some n) (Jb:Qh M1.N id=some n1) (hl:n.c.leaf=true) (RP:n.q.l=[]) (hq:n1.q.l≠[]) (yY:(n1.c,n1.du,n1.sh,n1.cp)=(n.c,n.du,n.sh,n.cp))
  (XM:∀ j,j≠id→Qh M1.N j=Qh M.N j) (hL:M1.Lv=M.Lv) (hK:M1.KT=M.KT) (hT:M1.T=M.T) (hA:M1.A=M.A) (ho:Wu M1) (now:Nat) (Wq:now<18446744073709551616) (head:Int):Inv (j9 M1 now id head):=by
 simp only[Prod.mk.injEq] at yY
 obtain ⟨ec,ed,es,ep⟩:=yY
 have ZI:QC M1 id=n1:=by unfold QC;rw[Jb];rfl
 have Ze:n1.c.leaf=true:=by rw[ec];exact hl
 have JL:id ∉ M.A:=fun h=>by
  obtain ⟨m,h1,_,h3,_⟩:=(V.act id).1 h
  rw[hn] at h1
  cases h1
  exact h3 RP
 have hnl:∀ y∈M.Lv,y.ki≠id:=fun y hy e=>by
  obtain ⟨m,h1,_,h3,_⟩:=(V.lv y).1 hy
  rw[e,hn] at h1
  cases h1
  exact h3 RP
 obtain ⟨M2,qs⟩:∃ M2,M2=Jy M1 now id head:=⟨_,rfl⟩
 have I2:Qy M2:=by rw[qs];exact I1.Jy Jb now head
 obtain ⟨w1,w2,w3,w4⟩:=MH (M:=M1) (now:=now) (id:=id) (head:=head)
 rw[← qs] at w1 w2 w3 w4
 have hF:∀ j,Qh M2.N j=if j=id∧1<QH n1.c.rt then (Qh M1.N j).map (fun n=>{ n with du:=W8 n1.du (Jl n1.c.rt) now head }) else Qh M1.N j:=fun j=>by
  rw[qs,Qqe,ZI]
 have Af:∀ j,j≠id→Qh M2.N j=Qh M.N j:=fun j hj=>by rw[hF,if_neg (fun e=>hj e.1),XM j hj]
 have TN:M2.Lv=if 1<QH n1.c.rt then Vv id (W8 n1.du (Jl n1.c.rt) now head).Vw (W8 n1.du (Jl n1.c.rt) now head).dead M.Lv else M.Lv:=by
  rw[qs]
  unfold Jy
  rw[ZI]
  split
  ·dsimp only
   rw[hL]
  ·exact hL
 obtain ⟨m,hm,qS,BJ,hms,tn,Mm⟩:∃ m,Qh M2.N id=some m∧m.c=n.c∧m.q=n1.q∧m.sh=n.sh∧m.cp=n.cp∧(1<QH n1.c.rt→m.du=W8 n1.du (Jl n1.c.rt) now head):=by
  rw[hF,Jb]
  by_cases h:1<QH n1.c.rt
  ·rw[if_pos ⟨rfl,h⟩]
   exact ⟨_,rfl,ec,rfl,es,ep,fun _=>rfl⟩
  ·rw[if_neg (fun e=>h e.2)]
   exact ⟨_,rfl,ec,rfl,es,ep,fun e=>absurd e h⟩
 have ja:vG M2:=V.lv.at_ hm (fun j hj=>by rw[Af j hj]) (fun y hy=>by
   rw[TN]
   split
   ·rw[yV]
    exact ⟨fun h=>h.elim (fun e=>absurd (congrArg It.ki e) hy) (·.1),fun h=>.inr ⟨h,hy⟩⟩
   ·exact Iff.rfl) fun y hy=>by
   rw[TN,qS,BJ]
   by_cases h:1<QH n1.c.rt
   ·rw[if_pos h,yV,Mm h]
    rw[← ec]
    exact ⟨fun e=>e.elim (fun e=>⟨Ze,hq,h,e⟩) fun e=>absurd hy e.2,fun e=>.inl e.2.2.2⟩
   ·rw[if_neg h]
    rw[← ec]
    exact ⟨fun e=>absurd hy (hnl y e),fun e=>absurd e.2.2.1 h⟩
 have Z1:∀ j,(Qh M2.N j).map q9=(Qh M.N j).map q9:=fun j=>by
  by_cases e:j=id
  ·subst e
   rw[hm,hn]
   simp only[Option.map_some,q9,qS,hms,tn]
  ·rw[Af j e]
 have tM:vH M2:=fun j k hj vF=>by
  by_cases e:j=id
  ·subst e
   rw[hm] at hj
   cases hj
   rw[qS,hl] at vF
   cases vF
  ·rw[Af j e] at hj
   exact V.xz j k hj vF
 have tN:Wu M2:=fun j k hj=>by
  rw[hF] at hj
  split at hj
  ·obtain ⟨k0,h1,rfl⟩:=Option.map_eq_some_iff.1 hj
   have h2:=ho j k0 h1
   exact ⟨h2.ZV,pB (ho id n1 Jb).du (ho id n1 Jb).c.2.2.2.1.lt Wq head,h2.sh,h2.cp,h2.c⟩
  ·exact ho j k hj
 have tO:JF M2.Lv:=by
  rw[TN]
  split
  ·exact Nq V.WU.1
  ·exact V.WU.1
 unfold j9
 rw[ZI,← qs]
 by_cases hs:1<QH n1.c.ls
 ·rw[if_pos hs]
  obtain ⟨M3,WQ⟩:∃ M3,M3=(Vs M1.T M1.A id).foldl (KM now) { M2 with A:=id::M1.A }:=⟨_,rfl⟩
  rw[← WQ]
  obtain ⟨t1,t2,t3,t4,t5,t6⟩:=GH now (Vs M1.T M1.A id) { M2 with A:=id::M1.A }
  rw[← WQ] at t1 t2 t3 t4 t5 t6
  dsimp only at t1 t2 t3
  have tL:=tK now (Vs M1.T M1.A id) { M2 with A:=id::M1.A }
  rw[← WQ] at tL
  have Ks:Qr M1.T id=some n1.c:=I1.some Jb
  have tP:M1.T=M3.T:=by rw[t1,w1]
  have I3:Qy M3:=by
   rw[WQ]
   refine Qy.MG _ (I2.act fun a ha=>?_)
   rw[w1]
   rcases List.mem_cons.1 ha with rfl | ha
   ·exact ⟨n1.c,Ks,Ze,hs⟩
   ·exact I1.Wp a ha
  rw[tP]
  have CV:∀ j,j ∉ up M1.T id→j ∉ Vs M1.T M1.A id:=fun j hj h=>hj (List.takeWhile_subset _ h)
  have Nt:∀ j,(Qh M3.N j).map (fun n=>(n.c,n.q,n.du))=(Qh M2.N j).map fun n=>(n.c,n.q,n.du):=fun j=>by
   rw[WQ]
   exact vJ (key:=fun n:Nd=>(n.c,n.q,n.du)) (fun M j id=>Qqf now (fun _ _=>rfl) M j id) _ _ j
  have Hb:∀ j,j ∉ up M1.T id→Qh M3.N j=Qh M.N j:=fun j hj=>by
   have h1:Qh M3.N j=Qh M2.N j:=by
    rw[WQ]
    exact Nr (fun M i id h=>TM (f:=zV M now) (fun _=>rfl) id h) _ _ j (CV j hj)
   rw[h1]
   exact Af j fun e=>hj (by rw[e];exact Vr I1.tree Ks)
  have tQ:∀ j,ZW M3 j=true↔j∈up M1.T id∨ZW M j=true:=fun j=>by
   unfold ZW
   rw[t1,t2,w1,hA,hT,VM,VM]
   simp
  refine Part.settle _ id I3 rfl ?_
  rw[← tP]
  refine ⟨?_,?_,fun p x hx xA=>(tQ _).2 (.inl xA),?_,?_,⟨by rw[tL];exact tO,fun p=>by rw[t3,w3,hK];exact V.WU.2 p⟩,?_⟩
  ·exact ja.of tL fun j=>yX (fun k=>(k.1,k.2.1.l.isEmpty,k.2.2.Vw,k.2.2.dead)) (Nt j)
  ·refine V.kt.part (by rw[t3,w3,hK]) (fun j hj=>?_) fun j hj=>by rw[Hb j hj]
   rw[Bool.eq_iff_iff,tQ]
   exact ⟨fun h=>h.resolve_left hj,.inr⟩
  ·obtain ⟨m3,g1,g2⟩:=vI (Nt id) hm
   simp only[Prod.mk.injEq] at g2
   obtain ⟨g3,g4,g5⟩:=g2
   refine V.act.at_ g1 (fun j hj=>?_) (fun j hj=>?_) ?_
   ·rw[← Af j hj]
    exact yX (fun k=>(k.1,k.2.1.l.isEmpty)) (Nt j)
   ·rw[t2,hA]
    simp [hj]
   ·rw[t2,g3,g4,qS,BJ,← ec]
    exact ⟨fun _=>⟨Ze,hq,hs⟩,fun _=>List.mem_cons_self⟩
  ·exact tI tM fun j=>yX (fun k=>(k.1,k.2.1)) (Nt j)
  ·rw[WQ]
   have:∀ (l:List Int) (M:Qj),Qy M→Wu M→Wu (l.foldl (KM now) M):=by
    intro l
    induction l with
    | nil=>intro M _ h;exact h
    | cons j l ih=>
     intro M I h
     refine ih _ (I.KM now j) ?_
     exact Ha (f:=zV M now) (fun _=>rfl) (fun n _ hn=>r6 I Wq hn) h
   refine this _ _ (I2.act fun a ha=>?_) tN
   rw[w1]
   rcases List.mem_cons.1 ha with rfl | ha
   ·exact ⟨n1.c,Ks,Ze,hs⟩
   ·exact I1.Wp a ha
 ·rw[if_neg hs]
  refine ⟨ja,V.kt.of (by rw[w3,hK]) (fun j=>by unfold ZW;rw[w1,w2,hT,hA]) Z1,?_,tM,⟨tO,fun p=>by rw[w3,hK];exact V.WU.2 p⟩,tN⟩
  refine V.act.at_ hm (fun j hj=>by rw[Af j hj]) (fun j hj=>by rw[w2,hA]) ?_
  rw[w2,hA,qS,BJ,← ec]
  exact ⟨fun h=>absurd h JL,fun h=>absurd h.2.2 hs⟩
theorem tR {M:Qj} {cls:Int} {x:Pk} {n:Nd} (hn:Qh M.N cls=some n):Kh M cls x=if n.c.leaf=false then 29 else if x.len<1∨M.lk.VJ<x.len then 26 else if 1099511627776<M.acc+x.len.toNat then 28
   else if WK n.c.Za n.c.bytes n.q x=true then 30 else 0:=by unfold Kh;rw[hn]
theorem Qqj {M:Qj} {cls:Int} {x:Pk} {n:Nd} (hn:Qh M.N cls=some n) (h:Kh M cls x=30):n.c.leaf=true∧WK n.c.Za n.c.bytes n.q x=true:=by
 rw[tR hn] at h
 split at h
 ·cases h
 ·rename_i h1
  split at h
  ·cases h
  ·split at h
   ·cases h
   ·split at h
    ·rename_i h4
     exact ⟨by simpa using h1,h4⟩
    ·cases h
theorem Qqk {M:Qj} {cls:Int} {x:Pk} {n:Nd} (hn:Qh M.N cls=some n) (h:Kh M cls x=0):n.c.leaf=true∧WK n.c.Za n.c.bytes n.q x=false∧1≤x.len∧x.len≤M.lk.VJ∧M.acc+x.len.toNat≤1099511627776:=by
 rw[tR hn] at h
 split at h
 ·cases h
 ·rename_i h1
  split at h
  ·cases h
  ·rename_i h2
   split at h
   ·cases h
   ·rename_i h3
    split at h
    ·cases h
    ·rename_i h4
     exact ⟨by simpa using h1,by simpa using h4,by omega,by omega,by omega⟩
theorem Inv.put {M:Qj} (I:Qy M) (V:Inv M) (now:Nat) (Wq:now<18446744073709551616) (cls:Int) (x:Pk):Inv (VT M now cls x):=by
 unfold VT
 cases hn:Qh M.N cls with
 | none=>
  have e:Kh M cls x=23:=by unfold Kh;rw[hn]
  rw[e,if_neg (by decide),if_neg (by decide)]
  exact V
 | some n=>
  have ZI:QC M cls=n:=by unfold QC;rw[hn];rfl
  by_cases YN:Kh M cls x=30
  ·rw[if_pos YN]
   obtain ⟨h1,h2⟩:=Qqj hn YN
   exact V.push hn h1 x (.inl h2)
  ·rw[if_neg YN]
   by_cases h0:Kh M cls x=0
   ·rw[if_pos h0,ZI]
    obtain ⟨h1,h2,h3,h4,h5⟩:=Qqk hn h0
    by_cases hq:n.q.l=[]
    ·rw[if_pos hq]
     have Jb:Qh (Ws (JG M cls x) (M.acc+x.len.toNat)).N cls=some { n with q:=Kx n.c.Za n.c.bytes n.q x }:=by
      show Qh (JG M cls x).N cls=_
      rw[Ns,if_pos rfl,hn,ZI];rfl
     refine Inv.Qqg ((I.JG cls x).Ws h5) V hn Jb h1 hq ?_ rfl (fun j hj=>?_) rfl rfl rfl rfl (tJ V.ok cls x) now Wq x.len
     ·dsimp only
      rw[Qqc h2]
      simp
     ·show Qh (JG M cls x).N j=_
      rw[Ns,if_neg hj]
    ·rw[if_neg hq]
     exact (V.push hn h1 x (.inr hq)).acc _
   ·rw[if_neg h0]
    exact V
theorem Inv.XG {M:Qj} (I:Qy M) (V:Inv M) (now:Nat) (Wq:now<18446744073709551616) (cls:Int) (x:Pk):Inv (XG M now cls x):=by
 unfold X.XG
 split
 ·exact Inv.put (BC I now) (V.told now) now Wq cls x
 ·exact V
theorem Qql {T:List Qi} (hr:KH T) {p j:Int}:j∈KI T p↔∃ c,Qr T j=some c∧c.parent=p:=by
 unfold KI
 constructor
 ·intro h
  obtain ⟨c,h1,rfl⟩:=List.mem_map.1 h
  obtain ⟨h2,h3⟩:=List.mem_filter.1 h1
  exact ⟨c,(KQ hr).2 ⟨h2,rfl⟩,by simpa using h3⟩
 ·rintro ⟨c,h1,h2⟩
  obtain ⟨h3,rfl⟩:=(KQ hr).1 h1
  exact List.mem_map.2 ⟨c,List.mem_filter.2 ⟨h3,by simpa using h2⟩,rfl⟩
theorem Qqm (M:Qj) (j id:Int) (h:id≠j):Qh (VA M j).N id=Qh M.N id:=TM (f:=fun n:Nd=>{ n with sh:=zW }) (fun _=>rfl) id h
theorem Qqn {α:Type} {key:Nd→α} (hk:∀ n:Nd,key { n with sh:=zW }=key n) (M:Qj) (j id:Int):(Qh (VA M j).N id).map key=(Qh M.N id).map key:=
 TL (f:=fun n:Nd=>{ n with sh:=zW }) (fun _=>rfl) hk id
theorem BK {α:Type} {key:Nd→α} (hk:∀ n:Nd,key { n with sh:=zW }=key n) (M:Qj) (j id:Int):(Qh (ZL M j).N id).map key=(Qh M.N id).map key:=by
 unfold ZL
 split
 ·exact vJ (Qqn hk) _ (Kg M j) id
 ·rfl
theorem Nu (M:Qj) (j:Int):(ZL M j).KT=(Kg M j).KT:=by
 unfold ZL
 split
 ·exact (MM _ (Kg M j)).2.2.1
 ·rfl
theorem tS {M:Qj} (I:Qy M) {j:Int} {c:Qi} (h:Qr M.T j=some c):(QC M j).c=c:=by
 obtain ⟨n,h1,h2⟩:=I.MD h
 unfold QC
 rw[h1]
 exact h2
theorem tT {M:Qj} (I:Qy M) (j p:Int) (x:It):x∈(ZL M j).KT p↔x∈M.KT p∧x.ki≠j:=by
 rw[Nu]
 unfold Kg
 dsimp only
 split
 ·rename_i e
  rw[G9,e]
 ·rename_i e
  refine ⟨fun h=>⟨h,fun ej=>?_⟩,(·.1)⟩
  obtain ⟨c,h1,h2⟩:=I.Ya p x h
  rw[ej] at h1
  rw[tS I h1] at e
  exact e h2.symm
theorem TO:∀ (l:List Int) {M:Qj},Qy M→∀ (p:Int) (x:It),x∈(l.foldl ZL M).KT p↔x∈M.KT p∧x.ki ∉ l
 | [],M,I,p,x=>by simp
 | j::l,M,I,p,x=>by
  rw[List.foldl_cons,TO l (I.ZL j) p x,tT I]
  simp [and_assoc]
theorem Qqo {M:Qj} (I:Qy M) {j p:Int} {x:It} (h:x∈(ZL M j).KT p):Qh (ZL M j).N x.ki=Qh M.N x.ki:=by
 have h2:=h
 rw[Nu] at h2
 obtain ⟨hx,QD⟩:=(tT I j p x).1 h
 obtain ⟨c,h3,h4⟩:=I.Ya p x hx
 unfold ZL
 split
 ·rename_i e
  refine Nr Qqm _ (Kg M j) x.ki fun hc=>?_
  obtain ⟨c2,h5,h6⟩:=(Qql I.tree.rising).1 hc
  rw[h3] at h5
  cases h5
  unfold Kg at h2
  dsimp only at h2
  rw[if_pos (h4.symm.trans h6),e] at h2
  cases h2
 ·rfl
theorem tU:∀ (l:List Int) {M:Qj},Qy M→∀ {p:Int} {x:It},x∈(l.foldl ZL M).KT p→Qh (l.foldl ZL M).N x.ki=Qh M.N x.ki
 | [],M,I,p,x,h=>rfl
 | j::l,M,I,p,x,h=>by
  have h1:=tU l (I.ZL j) h
  exact h1.trans (Qqo I (p:=p) ((TO l (I.ZL j) p x).1 h).1)
theorem tV:∀ (l:List Int) {M:Qj},Qy M→∀ (i:Int),(∀ j∈l,(QC M j).c.parent≠i)→(l.foldl ZL M).KT i=M.KT i
 | [],M,I,i,h=>rfl
 | j::l,M,I,i,h=>by
  have e:(ZL M j).KT i=M.KT i:=by
   rw[Nu]
   unfold Kg
   dsimp only
   rw[if_neg (fun e=>h j List.mem_cons_self e.symm)]
  rw[List.foldl_cons,tV l (I.ZL j) i,e]
  intro k hk
  have h1:=BK (key:=fun n:Nd=>n.c.parent) (fun _=>rfl) M j k
  have h2:(QC (ZL M j) k).c.parent=(QC M k).c.parent:=by
   unfold QC
   cases h3:Qh M.N k with
   | none=>
    rw[h3,Option.map_none,Option.map_eq_none_iff] at h1
    rw[h1]
   | some n=>
    rw[h3] at h1
    obtain ⟨m,h4,h5⟩:=Option.map_eq_some_iff.1 h1
    rw[h4]
    exact h5
  rw[h2]
  exact h k (List.mem_cons_of_mem _ hk)
theorem Qqp {M:Qj} (V:Wu M) (j:Int):Wu (ZL M j):=by
 have go:∀ (l:List Int) (M:Qj),Wu M→Wu (l.foldl VA M):=by
  intro l
  induction l with
  | nil=>intro M h;exact h
  | cons j l ih=>
   intro M h
   exact ih _ (Ha (f:=fun n:Nd=>{ n with sh:=zW }) (fun _=>rfl) (fun n _ h=>⟨h.ZV,h.du,r9,h.cp,h.c⟩) h)
 unfold ZL
 split
 ·exact go _ (Kg M j) V
 ·exact V
theorem tW:∀ (l:List Int) {M:Qj},Wu M→Wu (l.foldl ZL M)
 | [],M,h=>h
 | j::l,M,h=>tW l (Qqp h j)
theorem tX:∀ (l:List Int) {M:Qj},xy M→xy (l.foldl ZL M)
 | [],M,h=>h
 | j::l,M,h=>by
  refine tX l ⟨?_,fun p=>?_⟩
  ·rw[(sb M j).2.2.2.2.2];exact h.1
  ·rw[Nu]
   unfold Kg
   dsimp only
   split
   ·exact TF (h.2 _)
   ·exact h.2 p
theorem Qqq (len:Nat) (M:Qj) (j id:Int) (h:id≠j):Qh (KN len M j).N id=Qh M.N id:=TM (f:=vD len) (fun _=>rfl) id h
theorem Qqr (len:Nat) {α:Type} {key:Nd→α} (hk:∀ n:Nd,key (vD len n)=key n) (M:Qj) (j id:Int):(Qh (KN len M j).N id).map key=(Qh M.N id).map key:=
 TL (f:=vD len) (fun _=>rfl) hk id
theorem tY (len:Nat):∀ (l:List Int) {M:Qj},Wu M→Wu (l.foldl (KN len) M)
 | [],M,h=>h
 | j::l,M,h=>tY len l (Ha (f:=vD len) (fun _=>rfl) (fun n _ hn=>sw hn len) h)
theorem Qqs (M:Qj) (id:Int) (ZR:Int) (r:Bool) (j:Int):Qh (Vy M id ZR r).N j=if j=id∧1<QH (QC M id).c.rt then (Qh M.N j).map (fun n=>{ n with du:=WO (QC M id) ZR r }) else Qh M.N j:=by
 unfold Vy
 by_cases h:1<QH (QC M id).c.rt
 ·rw[if_pos h]
  dsimp only
  rw[Wo (f:=fun n:Nd=>{ n with du:=WO (QC M id) ZR r }) (fun _=>rfl)]
  simp [h]
 ·rw[if_neg h,if_neg (fun e=>h e.2)]
theorem Inv.take {M:Qj} (I:Qy M) (V:Inv M) {id:Int} {n:Nd} (hn:Qh M.N id=some n) (hl:n.c.leaf=true) (hq:n.q.l≠[]) (r:Bool):Inv (q5 M id r):=by
 have ZI:QC M id=n:=by unfold QC;rw[hn];rfl
 have Ks:=I.some hn
 have zl:id∈up M.T id:=Vr I.tree Ks
 have TP:∀ j,Qh (YI M id).N j=if j=id then (Qh M.N j).map (fun n=>{ n with q:=Vl (QC M id).q }) else Qh M.N j:=fun j=>
  Wo (f:=fun n:Nd=>{ n with q:=Vl (QC M id).q }) (fun _=>rfl) j
 unfold q5
 dsimp only
 rw[ZI]
 generalize hlen:(n.q.l.headD default).len=len
 obtain ⟨M2,qs⟩:∃ M2,M2=(up M.T id).foldl (KN len.toNat) (YI M id):=⟨_,rfl⟩
 rw[← qs]
 have I2:Qy M2:=by rw[qs];exact Qy.SW _ (I.YI id)
 obtain ⟨b1,b2,b3,b4,b5,b6,b7⟩:=MS len.toNat (up M.T id) (YI M id)
 rw[← qs] at b1 b2 b3 b4 b5 b6 b7
 have Qqt:∀ j,j ∉ up M.T id→Qh M2.N j=Qh M.N j:=fun j hj=>by
  rw[qs,Nr (Qqq len.toNat) _ _ j hj,TP,if_neg (fun e=>hj (by rw[e];exact zl))]
 have Z1:∀ j,(Qh M2.N j).map (fun n=>(n.c,n.q,n.du))=(Qh (YI M id).N j).map fun n=>(n.c,n.q,n.du):=fun j=>by
  rw[qs]
  exact vJ (key:=fun n:Nd=>(n.c,n.q,n.du)) (fun M j id=>Qqr len.toNat (fun _=>rfl) M j id) _ _ j
 have Qqu:(Qh M2.N id).map (fun n=>(n.c,n.q,n.du))=some (n.c,Vl n.q,n.du):=by
  rw[Z1,TP,if_pos rfl,hn,ZI];rfl
 have F7:∀ j,j≠id→(Qh M2.N j).map (fun n=>(n.c,n.q,n.du))=(Qh M.N j).map fun n=>(n.c,n.q,n.du):=fun j hj=>by
  rw[Z1,TP,if_neg hj]
 obtain ⟨m2,Kv,e2⟩:=Option.map_eq_some_iff.1 Qqu
 simp only[Prod.mk.injEq] at e2
 obtain ⟨c2,q2,d2⟩:=e2
 have tZ:QC M2 id=m2:=by unfold QC;rw[Kv];rfl
 have TQ:Wu M2:=by
  rw[qs]
  exact tY _ _ (Ha (f:=fun n:Nd=>{ n with q:=Vl (QC M id).q }) (fun _=>rfl) (fun n _ h=>⟨h.ZV,h.du,h.sh,h.cp,h.c⟩) V.ok)
 obtain ⟨M3,WQ⟩:∃ M3,M3=Vy M2 id len r:=⟨_,rfl⟩
 rw[← WQ]
 have I3:Qy M3:=by rw[WQ];exact I2.Vy Kv len r
 obtain ⟨a1,a2,a3,a4,a5,a6⟩:=SX M2 id len r
 rw[← WQ] at a1 a2 a3 a4 a5 a6
 have hF:∀ j,Qh M3.N j=if j=id∧1<QH n.c.rt then (Qh M2.N j).map (fun n=>{ n with du:=WO m2 len r }) else Qh M2.N j:=fun j=>by
  rw[WQ,Qqs,tZ,c2]
 have Hb:∀ j,j ∉ up M.T id→Qh M3.N j=Qh M.N j:=fun j hj=>by
  rw[hF,if_neg (fun e=>hj (by rw[e.1];exact zl)),Qqt j hj]
 have TR:∀ j,j≠id→Qh M3.N j=Qh M2.N j:=fun j hj=>by rw[hF,if_neg (fun e=>hj e.1)]
 obtain ⟨m,hm,qS,BJ,Mm⟩:∃ m,Qh M3.N id=some m∧m.c=n.c∧m.q=Vl n.q∧(1<QH n.c.rt→m.du=WO m2 len r):=by
  rw[hF,Kv]
  by_cases h:1<QH n.c.rt
  ·rw[if_pos ⟨rfl,h⟩]
   exact ⟨_,rfl,c2,q2,fun _=>rfl⟩
  ·rw[if_neg (fun e=>h e.2)]
   exact ⟨_,rfl,c2,q2,fun e=>absurd e h⟩
 have ua:Wu M3:=fun j k hj=>by
  rw[hF] at hj
  split at hj
  ·obtain ⟨k0,h1,rfl⟩:=Option.map_eq_some_iff.1 hj
   have h2:=TQ j k0 h1
   exact ⟨h2.ZV,rY (TQ id m2 Kv) len r,h2.sh,h2.cp,h2.c⟩
  ·exact TQ j k hj
 have TS:M3.Lv=if 1<QH n.c.rt then (if (Vl n.q).l=[] then JC id (Vv id (WO m2 len r).Vw (WO m2 len r).dead M.Lv) else Vv id (WO m2 len r).Vw (WO m2 len r).dead M.Lv) else M.Lv:=by
  rw[WQ]
  unfold Vy
  rw[tZ,c2,q2]
  split
  ·dsimp only
   rw[b7];rfl
  ·exact b7
 have ja:vG M3:=V.lv.at_ hm (fun j hj=>by
   rw[TR j hj]
   exact yX (fun k=>(k.1,k.2.1.l.isEmpty,k.2.2.Vw,k.2.2.dead)) (F7 j hj)) (fun y hy=>by
   rw[TS]
   split
   ·split
    ·rw[G9,yV]
     exact ⟨fun h=>h.1.elim (fun e=>absurd (congrArg It.ki e) hy) (·.1),fun h=>⟨.inr ⟨h,hy⟩,hy⟩⟩
    ·rw[yV]
     exact ⟨fun h=>h.elim (fun e=>absurd (congrArg It.ki e) hy) (·.1),fun h=>.inr ⟨h,hy⟩⟩
   ·exact Iff.rfl) fun y hy=>by
   rw[TS,qS,BJ]
   by_cases h:1<QH n.c.rt
   ·rw[if_pos h,Mm h]
    split
    ·rename_i he
     rw[G9]
     exact ⟨fun e=>absurd hy e.2,fun e=>absurd he e.2.1⟩
    ·rename_i he
     rw[yV]
     exact ⟨fun e=>e.elim (fun e=>⟨hl,he,h,e⟩) fun e=>absurd hy e.2,fun e=>.inl e.2.2.2⟩
   ·rw[if_neg h]
    refine ⟨fun e=>?_,fun e=>absurd e.2.2.1 h⟩
    obtain ⟨k,h1,_,_,h4,_⟩:=(V.lv y).1 e
    rw[hy,hn] at h1
    cases h1
    exact absurd h4 h
 have ub:xy M3:=⟨by
   rw[TS]
   split
   ·split
    ·exact TF (Nq V.WU.1)
    ·exact Nq V.WU.1
   ·exact V.WU.1,fun p=>by rw[a3,b3];exact V.WU.2 p⟩
 have uc:vH M3:=fun j k hj vF=>by
  by_cases e:j=id
  ·subst e
   rw[hm] at hj
   cases hj
   rw[qS,hl] at vF
   cases vF
  ·rw[TR j e] at hj
   obtain ⟨k0,h1,h2⟩:=vI (F7 j e).symm hj
   simp only[Prod.mk.injEq] at h2
   rw[← h2.2.1]
   exact V.xz j k0 h1 (by rw[h2.1];exact vF)
 have qZ:M3.T=M.T:=by rw[a1,b1];rfl
 have Ec:M3.A=M.A:=by rw[a2,b2];rfl
 have TT:M3.KT=M.KT:=by rw[a3,b3];rfl
 have SJ:∀ p x,x.ki ∉ up M.T id→(x∈M3.KT p↔Wt M3 p x):=V.kt.part TT (fun j _=>by unfold ZW;rw[qZ,Ec]) fun j hj=>by rw[Hb j hj]
 have ud:∀ j,j≠id→(Qh M3.N j).map za=(Qh M.N j).map za:=fun j hj=>by
  rw[TR j hj]
  exact yX (fun k=>(k.1,k.2.1.l.isEmpty)) (F7 j hj)
 have stay:(id∈M.A↔(Vl n.q).l≠[]∧1<QH n.c.ls)→Inv (JT M3 (up M.T id)):=fun ZH=>by
  rw[← qZ]
  refine Part.settle _ id I3 rfl ?_
  rw[qZ]
  refine ⟨ja,SJ,fun p x hx xA=>?_,V.act.at_ hm ud (fun j _=>by rw[Ec]) ?_,uc,ub,ua⟩
  ·rw[TT] at hx
   obtain ⟨_,_,_,h,_⟩:=(V.kt p x).1 hx
   show Zu M3.T M3.A x.ki=true
   rw[qZ,Ec]
   exact h
  ·rw[Ec,qS,BJ,ZH]
   exact ⟨fun h=>⟨hl,h⟩,fun h=>h.2⟩
 have VI:id∈M.A↔1<QH n.c.ls:=by
  rw[V.act id,hn]
  constructor
  ·rintro ⟨k,h1,_,_,h4⟩
   cases h1
   exact h4
  ·intro h
   exact ⟨n,rfl,hl,hq,h⟩
 by_cases Nv:(Vl n.q).l=[]
 ·rw[if_pos Nv]
  have Qqv:QC M3 id=m:=by unfold QC;rw[hm];rfl
  unfold Yd
  rw[Qqv,qS]
  by_cases hs:1<QH n.c.ls
  ·rw[if_pos hs]
   have Qqw:=VI.2 hs
   obtain ⟨Mo,vK⟩:∃ Mo,Mo={ M3 with A:=Z2 M3.A id }:=⟨_,rfl⟩
   have Io:Qy Mo:=by rw[vK];exact I3.act (I3.Wp.off id)
   rw[← vK]
   obtain ⟨U,hU⟩:∃ U,U=Vs M3.T (Z2 M3.A id) id:=⟨_,rfl⟩
   rw[← hU]
   obtain ⟨M4,YO⟩:∃ M4,M4=U.foldl ZL Mo:=⟨_,rfl⟩
   rw[← YO]
   have I4:Qy M4:=by rw[YO];exact Qy.GN _ Io
   obtain ⟨s1,s2,s3,s4,s5,s6⟩:=GO U Mo
   rw[← YO] at s1 s2 s3 s4 s5 s6
   have DO:M4.T=M.T:=by rw[s1,vK];exact qZ
   have Nw:M4.A=Z2 M.A id:=by rw[s2,vK];dsimp only;rw[Ec]
   have wS:Mo.N=M3.N:=by rw[vK]
   have ue:Mo.KT=M.KT:=by rw[vK];exact TT
   have TU:∀ j∈U,j∈up M.T id:=fun j hj=>by
    rw[hU,qZ] at hj
    exact List.takeWhile_subset _ hj
   have KV:∀ p x,x∈M4.KT p↔x∈M.KT p∧x.ki ∉ U:=fun p x=>by
    rw[YO,TO U Io p x,ue]
   have qa:∀ j,ZW M j=true↔j∈up M.T id∨ZW M4 j=true:=fun j=>by
    unfold ZW
    rw[DO,Nw]
    exact AW Qqw j
   have Qqx:∀ j,j∈up M.T id→j ∉ U→ZW M4 j=true:=fun j hj xp=>by
    rw[hU,qZ,Ec] at xp
    unfold ZW
    rw[DO,Nw]
    unfold Vs at xp
    have Nx:=List.takeWhile_append_dropWhile (p:=fun i=>!Zu M.T (Z2 M.A id) i) (l:=up M.T id)
    rw[← Nx] at hj
    rcases List.mem_append.1 hj with hj | hj
    ·exact absurd hj xp
    ·cases hd:(up M.T id).dropWhile (fun i=>!Zu M.T (Z2 M.A id) i) with
     | nil=>rw[hd] at hj;cases hj
     | cons k rest=>
      have hk:Zu M.T (Z2 M.A id) k=true:=by
       have:=List.head_dropWhile_not (fun i=>!Zu M.T (Z2 M.A id) i) (l:=up M.T id) (by rw[hd];simp)
       simp only[hd,List.head_cons] at this
       simpa using this
      rw[hd] at hj Nx
      have Qqy:k∈up M.T id:=by rw[← Nx];simp
      obtain ⟨ck,uf⟩:=Option.isSome_iff_exists.1 (AU Qqy)
      have XM:rest=up M.T ck.parent:=QjK I.tree (Nx.symm) uf
      rcases List.mem_cons.1 hj with rfl | hj
      ·exact hk
      ·refine AV I.tree hk ?_
       rw[JQ I.tree uf,← XM]
       exact List.mem_cons_of_mem _ hj
   have fwd:∀ p x,x.ki ∉ up M.T id→x∈M4.KT p→Wt M4 p x:=fun p x hx h=>by
    have hxM:=((KV p x).1 h).1
    obtain ⟨n0,h1,h2,h3,h4⟩:=(V.kt p x).1 hxM
    have hn4:Qh M4.N x.ki=some n0:=by
     have h5:Qh M4.N x.ki=Qh Mo.N x.ki:=by
      rw[YO]
      rw[YO] at h
      exact tU U Io h
     rw[h5,wS,Hb _ hx,h1]
    have ug:ZW M4 x.ki=true:=((qa _).1 h3).resolve_left hx
    refine ⟨n0,hn4,h2,ug,?_⟩
    have hK4:M4.KT x.ki=M.KT x.ki:=by
     rw[YO,tV U Io x.ki,ue]
     intro j hj e
     obtain ⟨cj,uh⟩:=Option.isSome_iff_exists.1 (AU (TU j hj))
     have QqC:Qr Mo.T j=some cj:=by rw[vK];dsimp only;rw[qZ];exact uh
     rw[tS Io QqC] at e
     refine hx (up_sub I.tree (TU j hj) ?_)
     rw[JQ I.tree uh,e]
     exact List.mem_cons_of_mem _ (Vr I.tree (I.some h1))
    rw[TI (n:=n0) rfl (by rw[ug,h3]) hK4]
    exact h4
   rw[← DO]
   refine Part.settle _ id I4 rfl ?_
   rw[DO]
   refine ⟨?_,fun p x hx=>⟨fwd p x hx,fun hd=>?_⟩,fun p x h xA=>Qqx _ xA ((KV p x).1 h).2,?_,?_,?_,?_⟩
   ·refine ja.of (by rw[s6,vK]) fun j=>?_
    rw[YO,vJ (BK (key:=yW) (fun _=>rfl)) U Mo j,wS]
   ·obtain ⟨k,h1,h2,h3,h4⟩:=hd
    have yY:(Qh M4.N x.ki).map (fun n=>n.c)=(Qh M3.N x.ki).map fun n=>n.c:=by
     rw[YO,vJ (BK (key:=fun n:Nd=>n.c) (fun _=>rfl)) U Mo x.ki,wS]
    obtain ⟨n0,h5,h6⟩:=vI yY.symm h1
    rw[Hb _ hx] at h5
    have QqD:(⟨n0.sh.time,x.ki,WN M x.ki n0,x.ki⟩:It)∈M.KT p:=(V.kt p _).2 ⟨n0,h5,by rw[h6];exact h2,(qa _).2 (.inr h3),rfl⟩
    have ui:=(KV p _).2 ⟨QqD,fun hU2=>hx (TU _ hU2)⟩
    obtain ⟨k2,g1,g2,g3,g4⟩:=fwd p ⟨n0.sh.time,x.ki,WN M x.ki n0,x.ki⟩ hx ui
    dsimp only at g1 g4
    rw[h1] at g1
    cases g1
    rw[← g4] at h4
    rw[h4]
    exact ui
   ·refine V.act.at_ (id:=id) (m:=(QC M4 id)) ?_ (fun j hj=>?_) (fun j hj=>?_) ?_
    ·have yY:(Qh M4.N id).map (fun n=>n.c)=(Qh M3.N id).map fun n=>n.c:=by
      rw[YO,vJ (BK (key:=fun n:Nd=>n.c) (fun _=>rfl)) U Mo id,wS]
     obtain ⟨k,h5,_⟩:=vI yY hm
     unfold QC
     rw[h5];rfl
    ·rw[YO,vJ (BK (key:=za) (fun _=>rfl)) U Mo j,wS]
     exact ud j hj
    ·rw[Nw]
     simp [Z2,hj]
    ·have yY:(Qh M4.N id).map (fun n=>n.q)=(Qh M3.N id).map fun n=>n.q:=by
      rw[YO,vJ (BK (key:=fun n:Nd=>n.q) (fun _=>rfl)) U Mo id,wS]
     obtain ⟨k,h5,h6⟩:=vI yY hm
     have hk:QC M4 id=k:=by unfold QC;rw[h5];rfl
     rw[hk,h6,BJ,Nw]
     simp [Z2,Nv]
   ·refine tI uc fun j=>?_
    rw[YO,vJ (BK (key:=fun n:Nd=>(n.c,n.q)) (fun _=>rfl)) U Mo j,wS]
   ·rw[YO]
    refine tX U ?_
    rw[vK]
    exact ub
   ·rw[YO]
    refine tW U ?_
    rw[vK]
    exact ua
  ·rw[if_neg hs]
   exact stay ⟨fun h=>absurd (VI.1 h) hs,fun h=>absurd h.2 hs⟩
 ·rw[if_neg Nv]
  exact stay (VI.trans ⟨fun h=>⟨Nv,h⟩,(·.2)⟩)
def Ko (T2:List Qi) (j:Int):Bool:=match Qr T2 j with
 | some c=>!c.leaf
 | none=>false
theorem uj {T2:List Qi} (M:Qj) (j id:Int):(Z8 T2 M j).KT id=if id=j∧Ko T2 j=true then [] else M.KT id:=by
 unfold Z8 Ko
 cases hf:Qr T2 j with
 | none=>simp
 | some c=>
  dsimp only
  by_cases hl:c.leaf=true
  ·rw[if_pos hl,if_neg (fun e=>by rw[hl] at e;exact absurd e.2 (by decide))]
  ·rw[if_neg hl]
   dsimp only
   by_cases e:id=j
   ·rw[if_pos e,if_pos ⟨e,by simpa using hl⟩]
   ·rw[if_neg e,if_neg (fun h=>e h.1)]
theorem uk {T2:List Qi} (id:Int):∀ (l:List Int) (M:Qj),id ∉ l→(l.foldl (Z8 T2) M).KT id=M.KT id
 | [],M,_=>rfl
 | j::l,M,h=>by
  rw[List.mem_cons,not_or] at h
  rw[List.foldl_cons,uk id l _ h.2,uj,if_neg (fun e=>h.1 e.1)]
theorem QqF {T2:List Qi} {M:Qj} (V:xy M) (j:Int):xy (Z8 T2 M j):=by
 refine ⟨by rw[(td (T2:=T2) M j).2.1];exact V.1,fun p=>?_⟩
 rw[uj]
 split
 ·simp [JF]
 ·exact V.2 p
theorem um {T2:List Qi}:∀ (l:List Int) {M:Qj},xy M→xy (l.foldl (Z8 T2) M)
 | [],M,h=>h
 | j::l,M,h=>um l (QqF h j)
theorem uo (T2:List Qi) (id:Int):∀ (l:List Int) (A:List Int),id∈l.foldl (YM T2) A↔id∈A∨(id∈l∧1<QH ((Qr T2 id).getD default).ls)
 | [],A=>by simp
 | j::l,A=>by
  rw[List.foldl_cons,uo T2 id l]
  unfold YM
  constructor
  ·rintro (h | ⟨h,h2⟩)
   ·split at h
    ·rename_i h3
     rcases List.mem_cons.1 h with rfl | h
     ·exact .inr ⟨List.mem_cons_self,h3⟩
     ·exact .inl h
    ·exact .inl h
   ·exact .inr ⟨List.mem_cons_of_mem _ h,h2⟩
  ·rintro (h | ⟨h,h2⟩)
   ·refine .inl ?_
    split
    ·exact List.mem_cons_of_mem _ h
    ·exact h
   ·rcases List.mem_cons.1 h with rfl | h
    ·refine .inl ?_
     rw[if_pos h2]
     exact List.mem_cons_self
    ·exact .inr ⟨h,h2⟩
theorem xB {M:Qj} (I:Qy M) {id:Int}:id∈JZ M↔∃ n,Qh M.N id=some n∧n.c.leaf=true∧n.q.l≠[]:=by
 constructor
 ·intro h
  obtain ⟨h1,h2⟩:=List.mem_filter.1 (show id∈(Yf M.T).filter _ from h)
  obtain ⟨n,h3,h4,h5⟩:=Nh I h1
  refine ⟨n,h3,h4,fun e=>?_⟩
  unfold xv QC at h2
  rw[h3] at h2
  simp [e] at h2
 ·rintro ⟨n,hn,hl,hq⟩
  have hc:=I.some hn
  obtain ⟨h1,h2⟩:=(KQ I.tree.rising).1 hc
  refine List.mem_filter.2 ⟨List.mem_map.2 ⟨n.c,List.mem_filter.2 ⟨h1,hl⟩,h2⟩,?_⟩
  unfold xv QC
  rw[hn]
  cases zQ:n.q.l with
  | nil=>exact absurd zQ hq
  | cons x l=>simp [zQ]
section
variable {M:Qj} (I:Qy M) (V:Inv M) {T2:List Qi} (I2:JA T2) (K2:qn T2) {b:Bool} (hb:YL M T2 b=false)
include I V I2 K2 hb
theorem Inv.No:Qy (WT M T2):=X.No I I2 K2 hb (Good.ja I V.Ea) (Good.yS I V.Ea)
omit I V I2 K2 in
theorem Ed {id:Int} (G4:z6 M id=true):id ∉ Jm M.T T2:=fun hm=>by
 unfold YL at hb
 rw[show (Jm M.T T2).any (z6 M)=true from List.any_eq_true.2 ⟨id,hm,G4⟩] at hb
 cases hb
omit V K2 in
theorem Ny {id:Int} (G4:z6 M id=true):Qh (Xd M T2) id=Qh M.N id:=by
 rw[BH I I2]
 unfold KO
 rw[yR I2.rising,if_neg (Ed hb G4)]
omit I V I2 K2 hb in
theorem Ee {a x:Int} (h1:a∈JZ M) (h2:x∈up M.T a):z6 M x=true:=List.any_eq_true.2 ⟨a,h1,by simpa using h2⟩
omit V K2 in
theorem QqG {a:Int} (h1:a∈JZ M):∀ (k:Nat) (x:Int),(up M.T x).length=k→(x=0∨x∈up M.T a)→up T2 x=up M.T x:=by
 intro k
 induction k using Nat.strongRecOn with
 | ind k ih=>
  intro x hk hx
  rcases hx with rfl | hx
  ·rw[CN I2,CN I.tree]
  ·obtain ⟨c,hc⟩:=Option.isSome_iff_exists.1 (AU hx)
   have h2:Qr T2 x=some c:=by
    refine Classical.byContradiction fun e=>?_
    exact Ed hb (Ee h1 hx) (Bv.2 (by rw[hc];exact fun e2=>e e2.symm))
   rw[JQ I2 h2,JQ I.tree hc]
   rw[JQ I.tree hc,List.length_cons] at hk
   congr 1
   refine ih _ (by omega) c.parent rfl ?_
   by_cases h0:c.parent=0
   ·exact .inl h0
   ·obtain ⟨d,hd,_⟩:=I.tree.Xn c (qJ I.tree hc) h0
    refine .inr (up_sub I.tree hx ?_)
    rw[JQ I.tree hc]
    exact List.mem_cons_of_mem _ (Vr I.tree hd)
omit V K2 in
theorem uq {a:Int} (h1:a∈JZ M):up T2 a=up M.T a:=by
 obtain ⟨n,hn,_⟩:=(xB I).1 h1
 exact QqG I I2 hb h1 _ a rfl (.inr (Vr I.tree (I.some hn)))
theorem QqH {id:Int}:id∈JZ (WT M T2)↔id∈JZ M:=by
 have I1:=V.No I I2 K2 hb
 rw[xB I1]
 constructor
 ·rintro ⟨n,h1,h2,h3⟩
  have Zw:Qh (Xd M T2) id=some n:=h1
  rw[BH I I2] at Zw
  unfold KO at Zw
  rw[yR I2.rising] at Zw
  split at Zw
  ·obtain ⟨c,_,rfl⟩:=Option.map_eq_some_iff.1 Zw
   exact absurd rfl h3
  ·exact (xB I).2 ⟨n,Zw,h2,h3⟩
 ·intro h
  obtain ⟨n,h1,h2,h3⟩:=(xB I).1 h
  refine ⟨n,?_,h2,h3⟩
  show Qh (Xd M T2) id=some n
  rw[Ny I I2 hb (Ee h (Vr I.tree (I.some h1)))]
  exact h1
theorem TV {id:Int}:id∈(z8 M T2).A↔id∈M.A:=by
 show id∈(JZ (WT M T2)).foldl (YM T2) []↔_
 rw[uo,QqH I V I2 K2 hb,V.act id]
 constructor
 ·rintro (h | ⟨h1,h2⟩)
  ·cases h
  ·obtain ⟨n,h3,h4,h5⟩:=(xB I).1 h1
   refine ⟨n,h3,h4,h5,?_⟩
   have hs:id ∉ Jm M.T T2:=Ed hb (Ee h1 (Vr I.tree (I.some h3)))
   have h6:Qr T2 id=Qr M.T id:=Classical.byContradiction fun e=>hs (Bv.2 fun e2=>e e2.symm)
   rw[h6,I.some h3] at h2
   exact h2
 ·rintro ⟨n,h3,h4,h5,h6⟩
  have h1:id∈JZ M:=(xB I).2 ⟨n,h3,h4,h5⟩
  refine .inr ⟨h1,?_⟩
  have hs:id ∉ Jm M.T T2:=Ed hb (Ee h1 (Vr I.tree (I.some h3)))
  have h7:Qr T2 id=Qr M.T id:=Classical.byContradiction fun e=>hs (Bv.2 fun e2=>e e2.symm)
  rw[h7,I.some h3]
  exact h6
theorem TW (id:Int):ZW (z8 M T2) id=ZW M id:=by
 have hT:(z8 M T2).T=T2:=(G3 (T2:=T2) (Jm M.T T2) { M with T:=T2 }).1
 rw[Bool.eq_iff_iff]
 unfold ZW
 rw[hT,VM,VM]
 have hl:∀ a∈M.A,a∈JZ M:=fun a ha=>by
  obtain ⟨n,h1,h2,h3,_⟩:=(V.act a).1 ha
  exact (xB I).2 ⟨n,h1,h2,h3⟩
 constructor
 ·rintro ⟨a,ha,hu⟩
  have yM:=(TV I V I2 K2 hb).1 ha
  exact ⟨a,yM,by rw[← uq I I2 hb (hl a yM)];exact hu⟩
 ·rintro ⟨a,ha,hu⟩
  exact ⟨a,(TV I V I2 K2 hb).2 ha,by rw[uq I I2 hb (hl a ha)];exact hu⟩
theorem Inv.change:Inv (z8 M T2):=by
 obtain ⟨f1,f2,f3,f4,f5⟩:=G3 (T2:=T2) (Jm M.T T2) { M with T:=T2 }
 have hL:(z8 M T2).Lv=M.Lv:=f2
 have h0:(0:Int) ∉ Jm M.T T2:=fun h=>Bv.1 h (by rw[AT I.tree,AT I2])
 have If:∀ {id:Int} {n:Nd},Qh M.N id=some n→n.c.leaf=true→n.q.l≠[]→Qh (z8 M T2).N id=some n:=fun {id n} h1 h2 h3=>by
  show Qh (Xd M T2) id=some n
  rw[Ny I I2 hb (Ee ((xB I).2 ⟨n,h1,h2,h3⟩) (Vr I.tree (I.some h1)))]
  exact h1
 have ya:∀ {id:Int} {n:Nd},Qh (z8 M T2).N id=some n→n.q.l≠[]→Qh M.N id=some n:=fun {id n} h1 h3=>by
  have Zw:Qh (Xd M T2) id=some n:=h1
  rw[BH I I2] at Zw
  unfold KO at Zw
  rw[yR I2.rising] at Zw
  split at Zw
  ·obtain ⟨c,_,rfl⟩:=Option.map_eq_some_iff.1 Zw
   exact absurd rfl h3
  ·exact Zw
 have JW:∀ {id:Int},ZW M id=true→z6 M id=true:=fun {id} h=>by
  obtain ⟨a,ha,hu⟩:=VM.1 h
  obtain ⟨n,h1,h2,h3,_⟩:=(V.act a).1 ha
  exact Ee ((xB I).2 ⟨n,h1,h2,h3⟩) hu
 have ur:∀ {id:Int},id ∉ Jm M.T T2→(z8 M T2).KT id=M.KT id:=fun {id} h=>uk id (Jm M.T T2) { M with T:=T2 } h
 have BV:∀ {id:Int} {n:Nd},ZW M id=true→WN (z8 M T2) id n=WN M id n:=fun {id n} h=>TI rfl (TW I V I2 K2 hb id) (ur (Ed hb (JW h)))
 have TG:∀ p x,Wt (z8 M T2) p x↔Wt M p x:=fun p x=>by
  constructor
  ·rintro ⟨n,h1,h2,h3,h4⟩
   rw[TW I V I2 K2 hb] at h3
   have h5:Qh M.N x.ki=some n:=by
    have:Qh (Xd M T2) x.ki=some n:=h1
    rwa [Ny I I2 hb (JW h3)] at this
   exact ⟨n,h5,h2,h3,by rw[← BV h3];exact h4⟩
  ·rintro ⟨n,h1,h2,h3,h4⟩
   refine ⟨n,?_,h2,by rw[TW I V I2 K2 hb];exact h3,by rw[BV h3];exact h4⟩
   show Qh (Xd M T2) x.ki=some n
   rw[Ny I I2 hb (JW h3)]
   exact h1
 have TH:∀ {p:Int} {x:It},Wt M p x→p ∉ Jm M.T T2:=fun {p x} ⟨n,h1,h2,h3,_⟩=>by
  by_cases hp:p=0
  ·rw[hp];exact h0
  ·refine Ed hb (JW (AV I.tree h3 ?_))
   have Ks:=I.some h1
   obtain ⟨d,hd,_⟩:=I.tree.Xn n.c (qJ I.tree Ks) (by rw[h2];exact hp)
   rw[JQ I.tree Ks,← h2]
   exact List.mem_cons_of_mem _ (Vr I.tree hd)
 refine ⟨fun x=>?_,fun p x=>?_,fun id=>?_,fun id n h hl=>?_,um _ V.WU,fun id n h=>?_⟩
 ·rw[hL,V.lv x]
  constructor
  ·rintro ⟨n,h1,h2,h3,h4,h5⟩
   exact ⟨n,If h1 h2 h3,h2,h3,h4,h5⟩
  ·rintro ⟨n,h1,h2,h3,h4,h5⟩
   exact ⟨n,ya h1 h3,h2,h3,h4,h5⟩
 ·rw[TG]
  constructor
  ·intro h
   have h2:x∈M.KT p:=Nk p (Jm M.T T2) { M with T:=T2 } h
   exact (V.kt p x).1 h2
  ·intro h
   rw[ur (TH h)]
   exact (V.kt p x).2 h
 ·rw[TV I V I2 K2 hb,V.act id]
  constructor
  ·rintro ⟨n,h1,h2,h3,h4⟩
   exact ⟨n,If h1 h2 h3,h2,h3,h4⟩
  ·rintro ⟨n,h1,h2,h3,h4⟩
   exact ⟨n,ya h1 h3,h2,h3,h4⟩
 ·have Zw:Qh (Xd M T2) id=some n:=h
  rw[BH I I2] at Zw
  unfold KO at Zw
  rw[yR I2.rising] at Zw
  split at Zw
  ·obtain ⟨c,_,rfl⟩:=Option.map_eq_some_iff.1 Zw
   rfl
  ·exact V.xz id n Zw hl
 ·have Zw:Qh (Xd M T2) id=some n:=h
  rw[BH I I2] at Zw
  unfold KO at Zw
  rw[yR I2.rising] at Zw
  split at Zw
  ·obtain ⟨c,hc,rfl⟩:=Option.map_eq_some_iff.1 Zw
   exact ta (K2 c (qJ I2 hc))
  ·exact V.ok id n Zw
end
theorem vC.uniq {M:Qj} {now:Nat} {o o':Option It} (a:vC M now o) (b:vC M now o'):o=o':=by
 unfold vC at a b
 cases o with
 | none=>
  cases o' with
  | none=>rfl
  | some y=>
   have h1:_=[]:=a
   have h2:=J2.mem b
   rw[h1] at h2
   cases h2
 | some x=>
  cases o' with
  | none=>
   have h1:_=[]:=b
   have h2:=J2.mem a
   rw[h1] at h2
   cases h2
  | some y=>exact congrArg some (J2.uniq a b)
@[go_sem] def uu (l:List Act):D:=.imm 11 l.length (Act.rows l)
def Hc:List It→Option It
 | []=>none
 | x::l=>match Hc l with
  | none=>some x
  | some y=>some (Xr x y)
theorem uv:∀ L:List It,qL (Hc L) L
 | []=>rfl
 | x::l=>by
  have h:=uv l
  unfold Hc
  cases hb:Hc l with
  | none=>
   rw[hb] at h
   have h2:l=[]:=h
   subst h2
   exact J2.one x
  | some y=>
   rw[hb] at h
   exact J2.join (J2.one x) h
def uw (M:Qj) (now:Nat):Option It:=Hc (M.Lv.filter fun x=>decide (x.ka≤min now 9223372036854775807))
theorem ux (M:Qj) (now:Nat):vC M now (uw M now):=uv _
def kh (M:Qj) (now:Nat):Option (Int × Bool):=if j8 M now=true then J7 (Zq M now) now (uw (Zq M now) now) else none
def takeN (M:Qj) (now:Nat):Qj:=match kh M now with
 | none=>Zq M now
 | some x=>q5 (Zq M now) x.1 x.2
def He (M:Qj) (now:Nat):Int:=match kh M now with
 | none=>0
 | some x=>x.1
def Nz (M:Qj) (now:Nat):Pk:=match kh M now with
 | none=>default
 | some x=>(QC M x.1).q.l.headD default
def Hf (M:Qj) (now:Nat):Bool:=match kh M now with
 | none=>false
 | some x=>x.2
def Ef (M:Qj) (now:Nat):Bool:=(kh M now).isSome
theorem QqI {M M':Qj} {now:Nat} {d:D} (h:GS M now d M'):M'=takeN M now∧d=.tup [.agg (q6 (He M now) (Nz M now) (Hf M now)),QN (Ef M now)]:=by
 rcases h with ⟨h1,rfl,rfl⟩ | ⟨h1,o,h2,h3⟩
 ·have e:kh M' now=none:=by unfold kh;rw[if_neg (by rw[h1];exact Bool.false_ne_true)]
  have e2:Zq M' now=M':=by unfold Zq;rw[if_neg (by rw[h1];exact Bool.false_ne_true)]
  unfold takeN He Nz Hf Ef
  rw[e]
  exact ⟨e2.symm,rfl⟩
 ·have e:kh M now=J7 (Zq M now) now o:=by unfold kh;rw[if_pos h1,(ux (Zq M now) now).uniq h2]
  unfold takeN He Nz Hf Ef
  rw[e]
  cases hp:J7 (Zq M now) now o with
  | none=>
   rw[hp] at h3
   exact ⟨h3.2,h3.1⟩
  | some x=>
   rw[hp] at h3
   exact ⟨h3.2,h3.1⟩
structure WV (own:Nat→Tag) (h:List Ob) (p:Nat) (M:Qj):Prop where
 ex:∃ L,Q4 own h p L M
 I:Qy M
 V:Inv M
 K:xu M.lk
theorem WV.step {own own':Nat→Tag} {h h':List Ob} {p:Nat} {M:Qj} (C:WV own h p M) (e:∀ l,l<h.length→Live (own l)→own' l=own l∧h'[l]? = h[l]?):WV own' h' p M:=
 ⟨C.ex.imp fun _ c=>c.step e,C.I,C.V,C.K⟩
theorem WV.xl {own:Nat→Tag} {h:List Ob} {p:Nat} {M:Qj} (C:WV own h p M) (g:List Ob):WV (Zg own h .no) (h++g) p M:=C.step fun l hl _=>⟨qo hl,QU hl⟩
theorem WV.loc {own:Nat→Tag} {h:List Ob} {p:Nat} {M:Qj} (C:WV own h p M) {l:Nat} (hl:own l=.no) (o:Ob):WV own (h.set l o) p M:=
 C.step fun j _ hj=>⟨rfl,Qt (fun e=>hj.1 (by rw[← e,hl]))⟩
theorem uy (l:List Int) (M:Qj):(JT M l).lk=M.lk:=(SG l M).2.2.2.2.2.2.2.2
theorem QqJ (M:Qj) (id:Int):(Yd M id).lk=M.lk:=by
 unfold Yd
 split
 ·exact (GO _ _).2.2.1
 ·rfl
theorem QqK (M:Qj) (id:Int) (r:Bool):(q5 M id r).lk=M.lk:=by
 unfold q5
 dsimp only
 rw[uy]
 have h1:(Vy ((up M.T id).foldl (KN ((QC M id).q.l.headD default).len.toNat) (YI M id)) id ((QC M id).q.l.headD default).len r).lk=M.lk:=by
  rw[(SX _ _ _ _).2.2.2.1,(MS _ _ _).2.2.2.1];rfl
 split
 ·rw[QqJ,h1]
 ·exact h1
theorem QqL (M:Qj) (now:Nat) (id:Int) (head:Int):(j9 M now id head).lk=M.lk:=by
 unfold j9
 split
 ·rw[uy,(GH _ _ _).2.2.2.1]
  exact MH.2.2.2
 ·exact MH.2.2.2
theorem TX (M:Qj) (now:Nat):(Zq M now).lk=M.lk:=(sQ M now).1
theorem QqM (M:Qj) (now:Nat) (cls:Int) (x:Pk):(VT M now cls x).lk=M.lk:=by
 unfold VT
 split
 ·rfl
 ·split
  ·split
   ·rw[QqL];rfl
   ·rfl
  ·rfl
theorem QqN (M:Qj) (now:Nat) (cls:Int) (x:Pk):(XG M now cls x).lk=M.lk:=by
 unfold XG
 split
 ·rw[QqM,TX]
 ·rfl
theorem QqO (M:Qj) (now:Nat):(takeN M now).lk=M.lk:=by
 unfold takeN
 split
 ·exact TX M now
 ·rw[QqK,TX]
theorem QqP (M:Qj) (b:Bool) (l:List ZP):(Xe M b l).lk=M.lk:=by
 unfold Xe
 split
 ·exact (G3 _ _).2.2.1
 ·rfl
theorem Inv.pick {M:Qj} (I:Qy M) (V:Inv M) {now:Nat} {o:Option It} (ho:vC M now o) {id:Int} {r:Bool} (hp:J7 M now o=some (id,r)):∃ n,Qh M.N id=some n∧n.c.leaf=true∧n.q.l≠[]∧(1<QH n.c.ls→id∈M.A):=Good.SY I V.Ea now o id r ho hp
theorem Inv.takeN {M:Qj} (I:Qy M) (V:Inv M) (now:Nat):Inv (takeN M now):=by
 unfold X.takeN
 cases hp:kh M now with
 | none=>exact V.told now
 | some x=>
  unfold kh at hp
  split at hp
  ·obtain ⟨n,h1,h2,h3,_⟩:=(V.told now).pick (BC I now) (ux _ _) hp
   exact (V.told now).take (BC I now) h1 h2 h3 x.2
  ·cases hp
theorem Inv.Xe {M:Qj} (I:Qy M) (V:Inv M) (b:Bool) (l:List ZP) (hc:∀ c∈l,ZP.Ok c):Inv (Xe M b l):=by
 unfold X.Xe
 split
 ·rename_i h
  have h2:YL M (j7 M.T l) b=false:=by
   unfold q8 at h
   split at h
   ·rename_i h3
    exact absurd h h3
   ·split at h
    ·cases h
    ·rename_i h4
     simpa using h4
  obtain ⟨h3,h4⟩:=rT I.tree I.vA hc
  exact V.change I h3 h4 h2
 ·exact V
def c6:Cf:=⟨1,100⟩
def Hg (id m:Int):ZP:=⟨1,⟨id,0,true,⟨0,0,0⟩,⟨m,0,m⟩,⟨0,0,0⟩,3,300⟩⟩
def Eg:List ZP:=[Hg 1 65536,Hg 2 131072]
def T6:List Qi:=[(Hg 1 65536).cls,(Hg 2 131072).cls]
def uz (L:List Int) (M:Qj) (T2:List Qi):Qj:=
 let D:=L.foldl (Z8 T2) { M with T:=T2 }
 let M1:Qj:={ D with N:=T2.map fun c=>QC D c.iD,To:=T2,A:=[] }
 { M1 with A:=(JZ M1).foldl (YM T2) [] }
theorem QqQ (M:Qj) (T2:List Qi):z8 M T2=uz (Jm M.T T2) M T2:=rfl
theorem uA:j7 [] Eg=T6:=by kernel_rfl
theorem uB:Jm [] T6=[1,2]:=by
 unfold Jm
 have h:qV [] T6=[1,2]:=by kernel_rfl
 rw[h,m7 (List.Perm.refl [1,2]) (by simp)]
 rfl
def S6:Qj:=uz [1,2] (M0 c6) T6
theorem QqR:YL (M0 c6) T6 true=false:=by
 unfold YL Mz
 have h:(M0 c6).T=[]:=rfl
 rw[h,uB]
 decide +kernel
theorem uC:q8 (M0 c6) true Eg=0:=by
 unfold q8
 have h:(M0 c6).T=[]:=rfl
 rw[h,uA,QqR]
 decide +kernel
theorem QqS:Xe (M0 c6) true Eg=S6:=by
 unfold Xe
 rw[if_pos uC,show (M0 c6).T=[] from rfl,uA,QqQ,show (M0 c6).T=[] from rfl,uB]
 rfl
def BL (i:Int):Pk:=⟨i,100,0,0,0,0⟩
def Hh:Nat→Qj
 | 0=>S6
 | i+1=>XG (XG (Hh i) 0 1 (BL i)) 0 2 (BL (i+3))
theorem QqT:∀ i,i<3→yQ (Hh i) 0 1 (BL i)=0∧yQ (XG (Hh i) 0 1 (BL i)) 0 2 (BL (i+3))=0:=by decide +kernel
def BM:Nat→Qj
 | 0=>Hh 3
 | j+1=>takeN (BM j) 0
def TY:List Int:=[1,2,2,1,2,1]
theorem QqU:∀ j,j<6→Ef (BM j) 0=true∧He (BM j) 0=TY.getD j 0∧Hf (BM j) 0=false:=by decide +kernel
def NA:Qj:=takeN (BM 6) 0
theorem QqV:Ef (BM 6) 0=false∧Np NA=9223372036854775808∧NA.acc=600∧yQ NA 1 1 ⟨0,101,0,0,0,0⟩=26:=by decide +kernel
section
variable {own:Nat→Tag} {h:List Ob} {p:Nat} {M:Qj} (C:WV own h p M)
include C
theorem TZ (now:Nat) (Wq:now<18446744073709551616) (cls:Int) (x:Pk) :
  QG Tryz.prog 16 h [.ptr p 0 0 0,u64 now,Qb cls,.agg x.cells] (fun d h'=>d=Qb (yQ M now cls x)∧∃ own',WV own' h' p (XG M now cls x)∧Q6 own h own' h'):=by
 obtain ⟨L,c⟩:=C.ex
 refine QG.mono (Qox c C.I C.K now Wq cls x (Good.hA C.I C.V.Ea cls)) ?_
 rintro d h' ⟨own',M',c',I',D,hd,rfl⟩
 exact ⟨hd,own',⟨⟨L,c'⟩,I',C.V.XG C.I now Wq cls x,by rw[QqN];exact C.K⟩,D⟩
theorem uD (now:Nat) :
  QG Tryz.prog 14 h [.ptr p 0 0 0,u64 now] (fun d h'=>d=.tup [.agg (q6 (He M now) (Nz M now) (Hf M now)),QN (Ef M now)]∧∃ own',WV own' h' p (takeN M now)∧Q6 own h own' h'):=by
 obtain ⟨L,c⟩:=C.ex
 refine QG.mono (Qof c C.I now fun o id r ho hp=>?_) ?_
 ·obtain ⟨n,h1,h2,h3,h4⟩:=(C.V.told now).pick (BC C.I now) ho hp
  exact ⟨n,by rw[← (MT M now).1];exact h1,h2,h3,by rw[← (MT M now).2.2];exact h4⟩
 ·rintro d h' ⟨own',M',c',I',D,hR⟩
  obtain ⟨rfl,hd⟩:=QqI hR
  exact ⟨hd,own',⟨⟨L,c'⟩,I',C.V.takeN C.I now,by rw[QqO];exact C.K⟩,D⟩
theorem QqW (b:Bool) (l:List ZP) (hc:∀ c∈l,ZP.Ok c) (hl:l.length<1000000) :
  QG Tryz.prog 17 h [.ptr p 0 0 0,QN b,DF l] (fun d h'=>d=.tup [Qb (xw M l),Qb (q8 M b l)]∧∃ own',WV own' h' p (Xe M b l)∧Q6 own h own' h'):=by
 obtain ⟨L,c⟩:=C.ex
 refine QG.mono (Qpu c C.I C.K b l hc hl (Good.ja C.I C.V.Ea) (Good.yS C.I C.V.Ea)) ?_
 rintro d h' ⟨own',L',M',c',I',D,hd,rfl⟩
 exact ⟨hd,own',⟨⟨L',c'⟩,I',C.V.Xe C.I b l hc,by rw[QqP];exact C.K⟩,D⟩
theorem QqX:QQ Tryz.prog 13 h [.ptr p 0 0 0] (fun d=>d=u64 (Np M)):=by
 obtain ⟨L,c⟩:=C.ex
 exact QpU c.ro C.I
theorem QqY:QQ Tryz.prog 24 h [.ptr p 0 0 0] (fun d=>d=u64 M.acc):=by
 obtain ⟨L,c⟩:=C.ex
 exact QpT c.ro
end
theorem QqZ (own:Nat→Tag) (h:List Ob) {c:Cf} (K:xu c) :
  QG Tryz.prog 15 h [.agg c.cells] (fun d h'=>∃ own' p,d=.tup [.ptr p 0 0 0,Qb 0]∧WV own' h' p (M0 c)∧Q6 own h own' h'):=by
 refine QG.mono (QoK (own:=own) c) ?_
 rintro d h' (⟨_,own',L,p,hd,c',I',D⟩ | ⟨hk,_⟩)
 ·exact ⟨own',p,hd,⟨⟨L,c'⟩,I',Qp9 c,K⟩,D⟩
 ·exact absurd K hk
def Qq0 (M:Qj) (a:Act):Qj:=if a.kind=0 then takeN M a.now.toNat else if a.kind=1 then XG M a.now.toNat a.cls a.wy else Xe M a.idle a.changes
def runN (M:Qj) (l:List Act):Qj:=l.foldl Qq0 M
theorem Act.Ok.now {a:Act} (h:a.Ok):0≤a.now∧a.now<18446744073709551616:=by have:=wf_u64 h.2.1;omega
@[go_sem] def QuL (a:Act):Ob:=⟨.one,0,11,1,fun _=>a.cells⟩
structure uE (own:Nat→Tag) (h:List Ob) (p:Nat) (M:Qj) (l:List Act) (k:Nat) (s:St):Prop where
 ex:∃ own' H,WV own' H p (runN M (l.take k))∧Q6 own h own' H∧s=⟨[(6,.ptr p 0 0 0),(7,Qb 0),(15,uu l),(16,Qb l.length),(17,Qb k)],H⟩
theorem uE.of {own:Nat→Tag} {h:List Ob} {p:Nat} {M:Qj} {l:List Act} {k:Nat} {own':Nat→Tag} {H:List Ob} (C:WV own' H p (runN M (l.take k))) (D:Q6 own h own' H) :
  uE own h p M l k ⟨[(6,.ptr p 0 0 0),(7,Qb 0),(15,uu l),(16,Qb l.length),(17,Qb k)],H⟩:=⟨⟨own',H,C,D,rfl⟩⟩
theorem uF (id:Int) (m:Int):Q7 Tryz.prog 31 [Qb id,.raw (.int .u64 m)] (Qm (.agg (Hg id m).cells)):=by
 refine Zk 0 Qe 200 Tryz.func31 rfl Tryz.ntmps31 Tryz.results31 rfl fun base w hb=>?_
 simp only[go_sem,simprocAttr]
 rfl
def T1:Nat→List D:=fun k=>List.take 1 (List.drop (k*1) [Qb 1,Qb 2,Qb 2,Qb 1,Qb 2,Qb 1])
theorem Qq1:∀ k,k<6→T1 k=[Qb (TY.getD k 0)]:=by
 intro k hk
 match k,hk with
 | 0,_=>rfl
 | 1,_=>rfl
 | 2,_=>rfl
 | 3,_=>rfl
 | 4,_=>rfl
 | 5,_=>rfl
 | j+6,h=>exact absurd (show j+6<6 from h) (by omega)
theorem Qq2:Q7 Tryz.prog 11 [] (Qm (QN true)):=by
 refine Zk 0 Qe 200 Tryz.func11 rfl Tryz.ntmps11 Tryz.results11 rfl fun base w hb=>?_
 simp only[go_sem,simprocAttr]
 have K6:xu c6:=⟨by decide,by decide,by decide,by decide⟩
 refine Q5 hb QhF rfl ?_ (QqZ (fun _=>.no) [] K6) rfl fun d h1 hR=>?_
 ·simp only[go_sem,simprocAttr,Qa,c6]
 obtain ⟨J4,p,rfl,C1,D1⟩:=hR
 refine Qc hb ?_
 simp only[go_sem,simprocAttr,Qa]
 refine QM hb lU rfl ?_ (uF 1 65536) (Qm.flat rfl) rfl fun d h hR=>?_
 ·simp only[go_sem,simprocAttr,Qa]
 obtain ⟨rfl,rfl⟩:=hR
 refine Qc hb ?_
 simp only[go_sem,simprocAttr,Qa]
 refine QM hb lU rfl ?_ (uF 2 131072) (Qm.flat rfl) rfl fun d h hR=>?_
 ·simp only[go_sem,simprocAttr,Qa]
 obtain ⟨rfl,rfl⟩:=hR
 refine Qc hb ?_
 simp only[go_sem,simprocAttr,Qa]
 refine IP (Ql.nR rfl (fun l o hl=>by simp at hl) 26 h1.length (Nat.zero_le _) rfl (Kq rfl) (Nat.le_refl 2) rfl ?_) ?_
 ·intro i hi
  match i,hi with
  | 0,_=>rfl
  | 1,_=>rfl
  | j+2,h=>exact absurd (show j+2<2 from h) (by omega)
 simp only[go_sem,simprocAttr,Qa]
 have zX:∀ c∈Eg,ZP.Ok c:=by
  intro c hc
  simp only[Eg,List.mem_cons,List.not_mem_nil,or_false] at hc
  rcases hc with rfl | rfl <;> exact ⟨by decide,⟨by decide,by decide,trivial,⟨by decide,by decide,by decide,trivial⟩,⟨by decide,by decide,by decide,trivial⟩,⟨by decide,by decide,by decide,trivial⟩,by decide,by decide,trivial⟩,trivial⟩
 refine Q5 hb lS rfl ?_ (QqW (C1.xl [_]) true Eg zX (by decide)) rfl fun d h2 hR=>?_
 ·simp only[go_sem,simprocAttr,Qa]
  refine ⟨rfl,fun i hi=>?_⟩
  match i,hi with
  | 0,_=>rfl
  | 1,_=>rfl
  | j+2,h=>exact absurd (show j+2<2 from h) (by omega)
 obtain ⟨rfl,Xc,C2,D2⟩:=hR
 rw[show (M0 c6)=M0 c6 from rfl,QqS] at C2
 rw[uC]
 refine Qc hb ?_
 simp only[go_sem,simprocAttr,Qa]
 refine ZB (fun k s=>∃ own' H,WV own' H p (Hh k)∧s=⟨[(1,.ptr p 0 0 0),(2,Qb 0),(5,Qb 0),(30,Qb k)],H⟩) 3 (s0:=⟨[(1,.ptr p 0 0 0),(2,Qb 0),(5,Qb 0),(30,Qb 0)],h2⟩) (Ql.frame (by simp only[go_sem,simprocAttr])) ⟨Xc,h2,C2,rfl⟩ ?_
 rintro k _ hk ⟨BE,H,C3,rfl⟩
 by_cases Qq:k<3
 ·obtain ⟨a1,a2⟩:=QqT k Qq
  have dk:decide ((k:Int)<3)=true:=decide_eq_true (by omega)
  have w1:IntKind.u64.wrap (k:Int)=k:=mU (by omega) (by omega)
  have w2:IntKind.i64.wrap ((k:Int)+3)=(k:Int)+3:=wrap64 (by omega) (by omega)
  have w3:IntKind.u64.wrap ((k:Int)+3)=(k:Int)+3:=mU (by omega) (by omega)
  have Zl:=KG (show k<4611686018427387904 by omega)
  refine Qc hb ?_
  simp only[go_sem,simprocAttr,Qa,dk,w1]
  refine Q5 hb La rfl ?_ (TZ C3 0 (by decide) 1 (BL k)) rfl fun d h3 hR=>?_
  ·simp only[go_sem,simprocAttr,Qa,w1]
   rfl
  rw[a1] at hR
  obtain ⟨rfl,Td,C4,D4⟩:=hR
  refine Qc hb ?_
  simp only[go_sem,simprocAttr,Qa,w2,w3]
  refine Q5 hb La rfl ?_ (TZ C4 0 (by decide) 2 (BL (k+3))) rfl fun d h4 hR=>?_
  ·simp only[go_sem,simprocAttr,Qa,w2,w3]
   rfl
  rw[a2] at hR
  obtain ⟨rfl,q4,C5,D5⟩:=hR
  refine Qc hb ?_
  simp only[go_sem,simprocAttr,Qa]
  exact ⟨Qq,_,Ql.frame (by simp only[go_sem,simprocAttr,Zl]),q4,_,C5,rfl⟩
 ·have Z1:k=3:=by omega
  have dk:decide ((k:Int)<3)=false:=decide_eq_false (by omega)
  subst Z1
  refine Qc hb ?_
  simp only[go_sem,simprocAttr,Qa]
  refine Qc hb ?_
  simp only[go_sem,simprocAttr,Qa]
  refine x5 (Ql.nR rfl (fun l o hl=>by simp at hl) 51 H.length (Nat.zero_le _) rfl (Kq rfl) (Nat.le_refl 6) rfl ?_) ?_
  ·intro i hi
   match i,hi with
   | 0,_=>rfl
   | 1,_=>rfl
   | 2,_=>rfl
   | 3,_=>rfl
   | 4,_=>rfl
   | 5,_=>rfl
   | j+6,h=>exact absurd (show j+6<6 from h) (by omega)
  simp only[go_sem,simprocAttr,Qa]
  have C4:=fun g=>C3.xl g
  refine ZB (fun k s=>∃ own' H,WV own' H p (BM k)∧s=⟨[(1,.ptr p 0 0 0),(2,Qb 0),(5,Qb 0),(51,.imm 1 6 T1),(52,Qb 6),(53,Qb k)],H⟩) 6 (s0:=⟨[(1,.ptr p 0 0 0),(2,Qb 0),(5,Qb 0),(51,.imm 1 6 T1),(52,Qb 6),(53,Qb 0)],_⟩) (Ql.frame (by simp only[go_sem,simprocAttr];rfl)) ⟨_,_,C4 _,rfl⟩ ?_
  rintro k _ hk ⟨Td,H4,C4,rfl⟩
  by_cases Qq:k<6
  ·obtain ⟨a1,a2,a3⟩:=QqU k Qq
   have dk:decide ((k:Int)<6)=true:=decide_eq_true (by omega)
   have Zl:=KG (show k<4611686018427387904 by omega)
   have ZN:=Qq1 k Qq
   obtain ⟨id,QX⟩:∃ id,id=TY.getD k 0:=⟨_,rfl⟩
   rw[← QX] at a2 ZN
   refine Qc hb ?_
   simp only[go_sem,simprocAttr,Qa,dk,Qq,ZN]
   refine ⟨by omega,?_⟩
   refine Q5 hb OQ rfl ?_ (uD C4 0) rfl fun d h5 hR=>?_
   ·simp only[go_sem,simprocAttr,Qa]
   rw[a1,a2,a3] at hR
   obtain ⟨rfl,q4,C5,D5⟩:=hR
   have eid:(id != id)=false:=by simp
   refine Qc hb ?_
   simp only[go_sem,simprocAttr,Qa,eid]
   exact ⟨Qq,_,Ql.frame (by simp only[go_sem,simprocAttr,Zl]),_,_,C5.xl _,rfl⟩
  ·have Z1:k=6:=by omega
   obtain ⟨a1,a2,a3,a4⟩:=QqV
   subst Z1
   refine Qc hb ?_
   simp only[go_sem,simprocAttr,Qa]
   refine Qc hb ?_
   simp only[go_sem,simprocAttr,Qa]
   refine Q5 hb OQ rfl ?_ (uD C4 0) rfl fun d h5 hR=>?_
   ·simp only[go_sem,simprocAttr,Qa]
   rw[a1] at hR
   obtain ⟨rfl,q4,C5,D5⟩:=hR
   have C6:∀ g,WV (Zg q4 h5 .no) (h5++g) p NA:=fun g=>C5.xl g
   have hD:∀ g,QQ Tryz.prog 13 (h5++g) [.ptr p 0 0 0] (fun d=>d=.raw (.int .u64 9223372036854775808)):=fun g=>by
    have:=QqX (C6 g)
    rw[a2] at this
    exact this
   have hE:∀ g,QQ Tryz.prog 24 (h5++g) [.ptr p 0 0 0] (fun d=>d=.raw (.int .u64 600)):=fun g=>by
    have:=QqY (C6 g)
    rw[a3] at this
    exact this
   refine Qc hb ?_
   simp only[go_sem,simprocAttr,Qa]
   refine QL hb lR rfl ?_ (hD _) rfl fun d hR=>?_
   ·simp only[go_sem,simprocAttr,Qa]
   subst hR
   refine Qc hb ?_
   simp only[go_sem,simprocAttr,Qa]
   refine QL hb lT rfl ?_ (hE _) rfl fun d hR=>?_
   ·simp only[go_sem,simprocAttr,Qa]
   subst hR
   refine Qc hb ?_
   simp only[go_sem,simprocAttr,Qa]
   refine Q5 hb La rfl ?_ (TZ (C6 _) 1 (by decide) 1 ⟨0,101,0,0,0,0⟩) rfl fun d h6 hR=>?_
   ·simp only[go_sem,simprocAttr,Qa]
   rw[a4] at hR
   obtain ⟨rfl,WR,C7,D7⟩:=hR
   refine Qc hb ?_
   simp only[go_sem,simprocAttr,Qa]
theorem Qq4:tC=[.raw (.int .i64 0),.raw (.int .i64 0),.raw (.bool false),.raw (.int .u64 0),.raw (.int .u64 0),.raw (.int .u64 0),.raw (.int .u64 0),.raw (.int .u64 0),.raw (.int .u64 0),.raw (.int .u64 0),.raw (.int .u64 0),.raw (.int .u64 0),.raw (.int .i64 0),.raw (.int .i64 0),.raw (.bool false),.raw (.int .u64 0),.raw (.bool false),.raw (.int .u64 0),.raw (.int .u64 0),.raw (.int .u64 0),.raw (.int .u64 0),.raw (.int .u64 0),.raw (.int .u64 0),.raw (.int .u64 0),.raw (.int .u64 0),.raw (.bool false),.raw (.int .u64 0),.raw (.int .u64 0),.raw (.int .u64 0),.raw (.int .u64 0),.raw (.int .u64 0),.raw (.int .u64 0),.raw (.int .u64 0),.raw (.int .u64 0),.raw (.bool false),.raw (.int .u64 0),.raw (.int .u64 0),.raw (.int .u64 0),.raw (.bool false),.raw (.int .u64 0),.raw (.int .u64 0),.raw (.int .u64 0),.raw (.int .u64 0),.raw (.int .u64 0),.raw (.int .u64 0),.raw (.int .u64 0),.raw (.int .u64 0),.raw (.bool false),.raw (.int .u64 0),.raw (.bool false),.raw (.int .u64 0),.raw (.int .u64 0),.raw (.int .u64 0),.raw (.int .u64 0),.raw (.int .u64 0),.raw (.int .u64 0),.raw (.int .u64 0),.raw (.int .u64 0),.raw (.bool false),.raw (.int .u64 0),.raw (.int .u64 0),.raw (.int .u64 0),.raw (.int .u64 0),.raw (.int .u64 0),.raw (.int .u64 0),.raw (.int .u64 0),.raw (.int .u64 0)]:=rfl
theorem Qq5:q6 0 default false=[Qb 0,.raw (.int .u64 0),Qb 0,.raw (.int .u16 0),.raw (.int .u16 0),.raw (.int .u16 0),.raw (.int .u16 0),QN false]:=rfl
theorem Qq6:(default:Cf).cells=[Qb 0,Qb 0]:=rfl
theorem Qq7 (a:Act) (ha:a.Ok):Q7 Tryz.prog 7 [.agg a.cells] (Qm (QN true)):=by
 obtain ⟨now,Wq⟩:∃ n:Nat,a.now=n:=⟨a.now.toNat,by have:=ha.now;omega⟩
 have hu:u64 now=.raw (.int .u64 a.now):=by rw[Wq];rfl
 have hT:=fun h=>Qp3 h now
 have hP:=fun h=>Qp2 h now a.cls a.wy
 rw[hu] at hT hP
 rw[Qq5] at hT
 have hF:=QpX
 rw[Qq6] at hF
 have hG:=fun h=>Qp1 h a.cls
 rw[Qq4] at hG
 refine Zk 0 Qe 200 Tryz.func7 rfl Tryz.ntmps7 Tryz.results7 rfl fun base w hb=>?_
 simp only[go_sem,simprocAttr]
 refine QL hb lS rfl ?_ (Qp4 _ a.idle a.changes) rfl fun d hR=>?_
 ·simp only[go_sem,simprocAttr,Qa]
 subst hR
 refine Qc hb ?_
 simp only[go_sem,simprocAttr,Qa]
 refine QL hb OQ rfl ?_ (hT _) rfl fun d hR=>?_
 ·simp only[go_sem,simprocAttr,Qa]
 subst hR
 refine Qc hb ?_
 simp only[go_sem,simprocAttr,Qa]
 refine QL hb QhI rfl ?_ (hG _) rfl fun d hR=>?_
 ·simp only[go_sem,simprocAttr,Qa]
 subst hR
 refine Qc hb ?_
 simp only[go_sem,simprocAttr,Qa]
 refine QL hb QhJ rfl ?_ (Qp0 _) rfl fun d hR=>?_
 ·simp only[go_sem,simprocAttr,Qa]
 subst hR
 refine Qc hb ?_
 simp only[go_sem,simprocAttr,Qa]
 simp only[go_sem,simprocAttr,List.append_eq,List.cons_append,List.nil_append,List.map_cons,List.map_nil]
 refine QL hb La rfl ?_ (hP _) rfl fun d hR=>?_
 ·simp only[go_sem,simprocAttr,Qa]
 subst hR
 refine Qc hb ?_
 simp only[go_sem,simprocAttr,Qa]
 refine QL hb lR rfl ?_ (QpW _) rfl fun d hR=>?_
 ·simp only[go_sem,simprocAttr,Qa]
 subst hR
 refine Qc hb ?_
 simp only[go_sem,simprocAttr,Qa]
 refine QL hb QhG rfl ?_ (QpZ _ a.cls) rfl fun d hR=>?_
 ·simp only[go_sem,simprocAttr,Qa]
 subst hR
 refine Qc hb ?_
 simp only[go_sem,simprocAttr,Qa]
 refine QL hb lT rfl ?_ (QpV _) rfl fun d hR=>?_
 ·simp only[go_sem,simprocAttr,Qa]
 subst hR
 refine Qc hb ?_
 simp only[go_sem,simprocAttr,Qa]
 refine QL hb QhH rfl ?_ (QpY _) rfl fun d hR=>?_
 ·simp only[go_sem,simprocAttr,Qa]
 subst hR
 refine Qc hb ?_
 simp only[go_sem,simprocAttr,Qa]
 refine QL hb QhK rfl ?_ (hF _) rfl fun d hR=>?_
 ·simp only[go_sem,simprocAttr,Qa]
 subst hR
 refine Qc hb ?_
 simp only[go_sem,simprocAttr,Qa]
 refine QM hb QhE rfl ?_ Qq2 (Qm.flat rfl) rfl fun d h hR=>?_
 ·simp only[go_sem,simprocAttr]
 obtain ⟨rfl,rfl⟩:=hR
 refine Qc hb ?_
 simp only[go_sem,simprocAttr]
end Go.Fg.X
