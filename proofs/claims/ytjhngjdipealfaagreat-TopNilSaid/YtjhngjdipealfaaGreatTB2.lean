/- Contracts and laws on the way to the statement. No conditions. -/
import Derived.Test.YtjhngjdipealfaaGreatTB5
set_option maxRecDepth 100000
set_option maxHeartbeats 16000000
set_option linter.unusedVariables false
set_option linter.unusedSimpArgs false
set_option linter.unusedSectionVars false
set_option linter.defProp false
namespace Go.Fg.X
open Go.Proofs Go.Fg
open Go.Proofs.Tryz
def QBI:Zh prog 35 [] (Qo (.agg Il.cells)):=by
 refine pH (R:=λd hh=>Jv 6 d (.agg Il.cells)) _ rfl (λd hh h=>.inl h) ?_;refine Uf Qh 24 func35 rfl ntmps35 results35 rfl λbase w hb=>?_;simp only[go_sem,Qa];refine GW (QI.Pb rfl (λl o hl=>by simp at hl) 10 3 (JQ _) rfl rfl (QD 1) rfl ?_) ?_
 ·intro i hi;match i,hi with
  | 0,_=>rfl
  | j+1,h=>exact absurd (show j+1<1 from h) (by omega)
 simp only[go_sem,Qa];refine Bp Qh hb 3 ?_;simp only[go_sem,Qa];refine GW (QI.Pb rfl (λl o hl=>by simp at hl) 13 4 (JQ _) rfl rfl (QD 1) rfl ?_) ?_
 ·intro i hi;match i,hi with
  | 0,_=>rfl
  | j+1,h=>exact absurd (show j+1<1 from h) (by omega)
 simp only[go_sem,Qa];refine Bp Qh hb 5 ?_;simp only[go_sem,Qa];refine GW (QI.Pb rfl (λl o hl=>by simp at hl) 18 5 (JQ _) rfl rfl (QD 5) rfl ?_) ?_
 ·intro i hi;match i,hi with
  | 0,_=>rfl
  | 1,_=>rfl
  | 2,_=>rfl
  | 3,_=>rfl
  | 4,_=>rfl
  | j+5,h=>exact absurd (show j+5<5 from h) (by omega)
 simp only[go_sem,Qa];apply Q1 hb;refine⟨rfl,rfl,rfl,λi hi=>?_⟩;match i,hi with
 | 0,_=>exact⟨rfl,⟨rfl,rfl,λj hj=>by match j,hj with|0,_=>exact Af (xN _) _|j+1,h=>exact absurd (show j+1<1 from h) (by omega)⟩,rfl,rfl,rfl,rfl,rfl,rfl,rfl,rfl,trivial⟩
 | 1,_=>exact⟨rfl,rfl,⟨rfl,rfl,λj hj=>by match j,hj with|0,_=>exact Af (xN _) _|j+1,h=>exact absurd (show j+1<1 from h) (by omega)⟩,rfl,rfl,rfl,rfl,rfl,rfl,rfl,trivial⟩
 | 2,_=>exact⟨rfl,rfl,rfl,rfl,rfl,rfl,rfl,rfl,rfl,rfl,trivial⟩
 | 3,_=>exact⟨rfl,rfl,rfl,rfl,rfl,rfl,rfl,rfl,rfl,rfl,trivial⟩
 | 4,_=>exact⟨rfl,rfl,rfl,rfl,rfl,rfl,rfl,rfl,rfl,rfl,trivial⟩
 | j+5,h=>exact absurd (show j+5<5 from h) (by omega)
theorem cW:F8.length=4:=rfl
theorem cX:F8.getD 0 default=⟨2,true,false,0,0,1,7,100,0,0,0,0⟩:=rfl
theorem cY:F8.getD 1 default=⟨2,false,false,0,100,1,7,100,0,0,0,0⟩:=rfl
theorem cZ:F8.getD 2 default=⟨3,true,false,0,0,1,7,100,0,0,0,0⟩:=rfl
theorem db:F8.getD 3 default=⟨4,false,false,100,200,1,7,100,0,0,0,0⟩:=rfl
def QBJ:Zh prog 11 [] (Qo (QY true)):=by
 have hR:=QBv Il ⟨by decide,by decide,by decide,by decide⟩ (by decide) QBB;rw[show (Xp (S0 Il.config) Il.ops).2.2=F8 from QBG]at hR;obtain⟨R,hRR,hl⟩:∃R,R=(Xp (S0 Il.config) Il.ops).2.1/\R.length=5:=⟨_,rfl,QBH⟩;rw[<- hRR]at hR;refine Zy 0 Qh 200 func11 rfl ntmps11 results11 rfl λbase w hb=>?_;simp only[go_sem];refine xM hb [] QqZ rfl ?_ QBI rfl λd h hR=>?_
 ·simp only[go_sem,Qa]
 obtain⟨rfl,rfl⟩:=hR;simp only[go_sem,Qa];apply Q1 hb;have e4:((4:Nat):Int)=4:=rfl;have e5:((5:Nat):Int)=5:=rfl;refine xM hb [] QqY rfl ?_ hR rfl λd h hR=>?_
 ·simp only[go_sem,Qa,cW,hl,e4,e5,cX,cY,cZ,db]
 obtain⟨rfl,rfl⟩:=hR;simp only[go_sem,Qa,cW,hl,e4,e5,cX,cY,cZ,db];refine Qf hb ?_;simp only[go_sem,Qa,cW,hl,e4,e5,cX,cY,cZ,db];simp only[go_sem,List.append_eq,XW,YT,Jz,List.map_nil,Qa,cW,e4,e5,cX,cY,cZ,db]
end Go.Fg.X
