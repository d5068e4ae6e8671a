/- The machine: a worker's steps: crossings, ends, loops. -/
import Derived.Test.YtelibaobkcokdaaGreatQU2Mr
namespace Go.Proofs.YtelibaobkcokdaaGreat.Mx
set_option linter.unusedSectionVars false
set_option linter.unusedVariables false
set_option linter.unusedSimpArgs false
open Go Go.Kx Go.Proofs Go.Proofs.YtelibaobkcokdaaGreat
set_option maxRecDepth 8000
section
variable {q:Pm} {L:List Wk} {k jw jc:Nat} {pl0 pl:Pl} {σ0 σ:Kx.St} {x:WC}
def Lc (pl:Pl) (σ:Kx.St) (j:Nat) (r:Res):Prop:=σ[j]?=some r∧∀ro,pl.p ro≠j
theorem Lc.ext {j:Nat} {r:Res} (h:Lc pl σ j r) {pl':Pl} {σ':Kx.St} (X:Ext pl pl' σ σ'):Lc pl' σ' j r:=by
 refine ⟨by rw[X.keep j (Qe h.1) h.2];exact h.1,fun ro=>?_⟩
 rcases X.new ro with e|e
 ·rw[e];exact h.2 ro
 ·have:=Qe h.1;omega
theorem WM.lc (h:WM q L k jw jc pl0 σ0 pl σ x) (r:Res):Lc pl (σ++[r]) σ.length r:=⟨Qc _ _,fun ro=>by have:=h.mm.lt ro;omega⟩
theorem w_advance_a (h:WM q L k jw jc pl0 σ0 pl σ x) (hb:x.2.log.length≤1000000000):FnG Tryz.prog 101 [.ref jw 0 0,.ref jc 0 0] σ fun _ σ'=>∃pl',WM q L k jw jc pl0 σ0 pl' σ' (advanceF q x):=by
 refine Q2 Z99 mixed rfl ?_
 simp only[Q32]
 push_cast (maxSteps:=999999) -implicitDefEqProofs (disch:=omega)
 refine Q0 h.frame_a ?_
 rintro a σ1 ⟨⟨i,off,rfl,hf⟩,h1,X1⟩
 obtain ⟨cs,hcs,g,_,_,_⟩:=hf.get
 have g11:=g 11 _ rfl
 have g14:=g 14 _ rfl
 have hw1:=h1.wk
 push_cast (maxSteps:=999999) -implicitDefEqProofs (disch:=omega)[hcs,g11,g14,hw1]
 refine Q0 (Q08 h1 (x.2.at x.1.holds).parent) ?_
 rintro a σ2 ⟨rfl,h2,X2⟩
 have hf2:=hf.ext X2 h2.mm rfl rfl
 obtain ⟨cs2,hcs2,g2,_,_,_⟩:=hf2.get
 have k14:=g2 14 _ rfl
 have hw2:=h2.wk
 push_cast (maxSteps:=999999) -implicitDefEqProofs (disch:=omega)[hcs2,k14,hw2]
 refine Q0 h2.Words_a ?_
 rintro a σ' ⟨rfl,hs⟩
 rw[hs];clear hs
 push_cast (maxSteps:=999999) -implicitDefEqProofs (disch:=omega)[hcs2,k14,hw2]
 refine Q0 (JS h2.mm.sd.ok h2.mm.words h2.mm.sd.ws _ _ _) ?_
 rintro a σ3 hs3
 obtain ⟨h3,X3⟩:=h2.setW (Q62 _ _ _)
 rw[←hs3] at h3 X3
 clear hs3
 have hf3:=hf2.ext X3 h3.mm rfl rfl
 obtain ⟨cs3,hcs3,g3,_,_,_⟩:=hf3.get
 have k15:=g3 15 _ rfl
 have hw3:=h3.wk
 push_cast (maxSteps:=999999) -implicitDefEqProofs (disch:=omega)[hcs3,k15,hw3]
 refine Q35 h3 hf3 (f':={ x.2.at x.1.holds with stage:=x.1.gStage }) (by rw[show (_:Fm).regs=(x.2.at x.1.holds).regs from rfl];exact J28 h1.mm _) rfl rfl (by decide) rfl ?_
 intro σ4 h4 hf4
 have hb4:((x.2.setW (stW x.2.ws (q.word (x.2.at x.1.holds).parent (x.2.at x.1.holds).index 0) x.1.gStage)).setFr x.1.holds { x.2.at x.1.holds with stage:=x.1.gStage }).log.length≤1000000000:=by
  unfold Cs.setFr;split<;>exact hb
 have hw4:=h4.wk
 unfold advanceF
 simp only
 cases c1:x.1.gWaits with
 | true=>
  simp only[if_true]
  have hw5:=h4.wk
  push_cast (maxSteps:=999999) -implicitDefEqProofs (disch:=omega)[hw5,c1]
  refine Q5 h4 (Y03 h4.re hb4 3) ?_
  intro a pl5 σ5 h5 X5
  by_cases c2:(x.2.at x.1.holds).stage=0
  ·have hf5:=hf4.ext X5 h5.mm rfl rfl
   obtain ⟨cs5,hcs5,g5,_,_,_⟩:=hf5.get
   have m11:=g5 11 _ rfl
   simp only[c2,if_true]
   push_cast (maxSteps:=999999) -implicitDefEqProofs (disch:=omega)[hcs5,m11,c2]
   refine Q5 h5 (ZH h5.re (x.2.at x.1.holds).parent .looksOn) ?_
   intro a pl6 σ6 h6 X6
   push_cast (maxSteps:=999999) -implicitDefEqProofs (disch:=omega)
   exact ⟨_,h6⟩
  ·simp only[c2,if_false]
   push_cast (maxSteps:=999999) -implicitDefEqProofs (disch:=omega)[c2]
   refine Q5 h5 (X97 h5.re) ?_
   intro a pl6 σ6 h6 X6
   push_cast (maxSteps:=999999) -implicitDefEqProofs (disch:=omega)
   exact ⟨_,h6⟩
 | false=>
  simp only[Bool.false_eq_true,if_false]
  have hw5:=h4.wk
  push_cast (maxSteps:=999999) -implicitDefEqProofs (disch:=omega)[hw5,c1]
  refine Q5 h4 (Y03 h4.re hb4 6) ?_
  intro a pl5 σ5 h5 X5
  by_cases c2:(x.2.at x.1.holds).stage=0
  ·have hf5:=hf4.ext X5 h5.mm rfl rfl
   obtain ⟨cs5,hcs5,g5,_,_,_⟩:=hf5.get
   have m11:=g5 11 _ rfl
   simp only[c2,if_true]
   push_cast (maxSteps:=999999) -implicitDefEqProofs (disch:=omega)[hcs5,m11,c2]
   refine Q5 h5 (ZH h5.re (x.2.at x.1.holds).parent .looksOn) ?_
   intro a pl6 σ6 h6 X6
   push_cast (maxSteps:=999999) -implicitDefEqProofs (disch:=omega)
   exact ⟨_,h6⟩
  ·simp only[c2,if_false]
   push_cast (maxSteps:=999999) -implicitDefEqProofs (disch:=omega)[c2]
   refine Q5 h5 (X97 h5.re) ?_
   intro a pl6 σ6 h6 X6
   push_cast (maxSteps:=999999) -implicitDefEqProofs (disch:=omega)
   exact ⟨_,h6⟩
theorem w_peek_a (h:WM q L k jw jc pl0 σ0 pl σ x):FnG Tryz.prog 102 [.ref jw 0 0,.ref jc 0 0] σ fun _ σ'=>∃pl',WM q L k jw jc pl0 σ0 pl' σ' (peekF q x):=by
 refine Q2 X42 mixed rfl ?_
 simp only[Z5]
 have hw:=h.wk
 have ⟨a1,a2⟩:=h.mm.sd.ok.base_in x.1.own
 have ⟨b1,b2⟩:=h.mm.sd.ok.wide_in
 have ⟨c1,c2⟩:=h.mm.sd.ok.FF
 have e0:q.size=q.W * q.wide+q.F * q.room:=rfl
 have hwl:=h.mm.sd.ws
 push_cast (maxSteps:=999999) -implicitDefEqProofs (disch:=omega)[hw]
 refine Q0 h.Words_a ?_
 rintro a σ' ⟨rfl,hs⟩
 rw[hs];clear hs
 push_cast (maxSteps:=999999) -implicitDefEqProofs (disch:=omega)[hw]
 refine Q0 h.Plan_a ?_
 rintro a σ' ⟨rfl,hs⟩
 rw[hs];clear hs
 push_cast (maxSteps:=999999) -implicitDefEqProofs (disch:=omega)[hw]
 refine Q1 (Q29 h.mm.sd.ok x.1.own) ?_
 rintro a rfl
 push_cast (maxSteps:=999999) -implicitDefEqProofs (disch:=omega)[hw]
 refine Q0 (XY h.mm.words a1 (by omega)) ?_
 rintro a σ' ⟨rfl,hs⟩
 rw[hs];clear hs
 by_cases c:x.1.tail≤ldW x.2.ws (q.base x.1.own)
 ·have e:peekF q x=checksF x 0 x.1.gStage:=if_pos c
  rw[e]
  push_cast (maxSteps:=999999) -implicitDefEqProofs (disch:=omega)[aInt,aBool,hw,c]
  refine Q5 h (X30 h.re 0 x.1.gStage) ?_
  intro a pl1 σ1 h1 X1
  push_cast (maxSteps:=999999) -implicitDefEqProofs (disch:=omega)
  exact ⟨_,h1⟩
 ·have e:peekF q x=decideF q ({ x.1 with gLooked:=false },x.2):=if_neg c
  rw[e]
  push_cast (maxSteps:=999999) -implicitDefEqProofs (disch:=omega)[aInt,aBool,hw,c]
  refine Qd h rfl rfl (by decide) (wst10 _ _ _ _) ⟨rfl,rfl,rfl,rfl,rfl⟩ ?_
  intro σ1 h1 X1
  push_cast (maxSteps:=999999) -implicitDefEqProofs (disch:=omega)
  refine Q5 h1 (Y39 h1.re) ?_
  intro a pl2 σ2 h2 X2
  push_cast (maxSteps:=999999) -implicitDefEqProofs (disch:=omega)
  exact ⟨_,h2⟩
theorem w_parks_a (h:WM q L k jw jc pl0 σ0 pl σ x) {d:Pk} (hd:x.1.park=some d):FnG Tryz.prog 105 [.ref jw 0 0,.ref jc 0 0] σ fun _ σ'=>∃pl',WM q L k jw jc pl0 σ0 pl' σ' (parksF q x):=by
 refine Q2 X09 mixed rfl ?_
 simp only[Q80]
 have hw:=h.wk
 have hpt:=QC (j:=pl.p (.pk k)) hd
 push_cast (maxSteps:=999999) -implicitDefEqProofs (disch:=omega)[hw,hpt]
 refine Q0 h.Words_a ?_
 rintro a σ' ⟨rfl,hs⟩
 rw[hs];clear hs
 push_cast (maxSteps:=999999) -implicitDefEqProofs (disch:=omega)[hw,hpt]
 refine Q0 (h.step_park hd) ?_
 rintro a σ1 ⟨rfl,h1,X1⟩
 unfold parksF
 simp only[hd]
 by_cases c1:(pkStep q d x.2.ws).1.next=3
 ·simp only[c1,decide_true,Bool.true_eq_false,if_false]
  have hw1:=h1.wk
  have hpt1:=QC (o:=some (pkStep q d x.2.ws).1) (j:=pl.p (.pk k)) rfl
  push_cast (maxSteps:=999999) -implicitDefEqProofs (disch:=omega)[aBool,hw1,hpt1]
  refine Q0 (park_Back_a (h1.pkc rfl)) ?_
  rintro a σ' ⟨rfl,hs⟩
  rw[hs];clear hs
  cases c2:(pkStep q d x.2.ws).1.back with
  | true=>
   simp only[if_true]
   push_cast (maxSteps:=999999) -implicitDefEqProofs (disch:=omega)[aBool,hw1]
   refine Q5 h1 (Z46 h1.re _) ?_
   intro a pl2 σ2 h2 X2
   push_cast (maxSteps:=999999) -implicitDefEqProofs (disch:=omega)
   exact ⟨_,h2⟩
  | false=>
   simp only[Bool.false_eq_true,if_false]
   push_cast (maxSteps:=999999) -implicitDefEqProofs (disch:=omega)[aBool]
   refine Q5 h1 (X29 h1.re) ?_
   intro a pl2 σ2 h2 X2
   push_cast (maxSteps:=999999) -implicitDefEqProofs (disch:=omega)
   exact ⟨_,h2⟩
 ·simp only[c1,decide_false,if_true]
  push_cast (maxSteps:=999999) -implicitDefEqProofs (disch:=omega)[aBool]
  exact ⟨_,h1⟩
theorem w_naps_a (h:WM q L k jw jc pl0 σ0 pl σ x) {d:Tw} (hd:x.1.nap=some d):FnG Tryz.prog 185 [.ref jw 0 0,.ref jc 0 0] σ fun _ σ'=>∃pl',WM q L k jw jc pl0 σ0 pl' σ' (napsF q x):=by
 refine Q2 X51 mixed rfl ?_
 simp only[Ze]
 have hw:=h.wk
 have hpt:=QC (j:=pl.p (.np k)) hd
 push_cast (maxSteps:=999999) -implicitDefEqProofs (disch:=omega)[hw,hpt]
 refine Q0 h.Words_a ?_
 rintro a σ' ⟨rfl,hs⟩
 rw[hs];clear hs
 push_cast (maxSteps:=999999) -implicitDefEqProofs (disch:=omega)[hw,hpt]
 refine Q0 (h.step_nap hd) ?_
 rintro a σ1 ⟨rfl,h1,X1⟩
 unfold napsF
 simp only[hd]
 cases c1:(napStep q d x.2.ws).1.over with
 | true=>
  simp only[Bool.true_eq_false,if_false]
  have hw1:=h1.wk
  have hpt1:=QC (o:=some (napStep q d x.2.ws).1) (j:=pl.p (.np k)) rfl
  push_cast (maxSteps:=999999) -implicitDefEqProofs (disch:=omega)[aBool,hw1,hpt1]
  refine Q0 (nap_Back_a (h1.npc rfl)) ?_
  rintro a σ' ⟨rfl,hs⟩
  rw[hs];clear hs
  cases c2:(napStep q d x.2.ws).1.won with
  | true=>
   simp only[if_true]
   push_cast (maxSteps:=999999) -implicitDefEqProofs (disch:=omega)[aBool,hw1]
   refine Qd h1 rfl rfl (by decide) (wst2 _ _ _ _) ⟨rfl,rfl,rfl,rfl,rfl⟩ ?_
   intro σ2 h2 X2
   push_cast (maxSteps:=999999) -implicitDefEqProofs (disch:=omega)
   refine Qd h2 rfl rfl (by decide) (wst1 _ _ _ _) ⟨rfl,rfl,rfl,rfl,rfl⟩ ?_
   intro σ3 h3 X3
   push_cast (maxSteps:=999999) -implicitDefEqProofs (disch:=omega)
   exact ⟨_,h3⟩
  | false=>
   simp only[Bool.false_eq_true,if_false]
   push_cast (maxSteps:=999999) -implicitDefEqProofs (disch:=omega)[aBool]
   refine Q5 h1 (X29 h1.re) ?_
   intro a pl2 σ2 h2 X2
   push_cast (maxSteps:=999999) -implicitDefEqProofs (disch:=omega)
   exact ⟨_,h2⟩
 | false=>
  simp only[if_true]
  push_cast (maxSteps:=999999) -implicitDefEqProofs (disch:=omega)[aBool]
  exact ⟨_,h1⟩
theorem w_closes_a (h:WM q L k jw jc pl0 σ0 pl σ x) {d:Tw} (hd:x.1.wake=some d):FnG Tryz.prog 180 [.ref jw 0 0,.ref jc 0 0] σ fun _ σ'=>∃pl',WM q L k jw jc pl0 σ0 pl' σ' (closesF q x):=by
 refine Q2 XF mixed rfl ?_
 simp only[Q54]
 have hw:=h.wk
 have hpt:=QC (j:=pl.p (.wa k)) hd
 push_cast (maxSteps:=999999) -implicitDefEqProofs (disch:=omega)[hw,hpt]
 refine Q0 h.Words_a ?_
 rintro a σ' ⟨rfl,hs⟩
 rw[hs];clear hs
 push_cast (maxSteps:=999999) -implicitDefEqProofs (disch:=omega)[hw,hpt]
 refine Q0 (h.step_wake hd) ?_
 rintro a σ1 ⟨rfl,h1,X1⟩
 unfold closesF
 simp only[hd]
 cases c1:(wakeStep q d x.2.ws).1.over with
 | true=>
  simp only[if_true]
  have hw1:=h1.wk
  have hpt1:=QC (o:=some (wakeStep q d x.2.ws).1) (j:=pl.p (.wa k)) rfl
  push_cast (maxSteps:=999999) -implicitDefEqProofs (disch:=omega)[aBool,hw1,hpt1]
  refine Q0 (wake_Got_a (h1.wac rfl)) ?_
  rintro a σ' ⟨rfl,hs⟩
  rw[hs];clear hs
  push_cast (maxSteps:=999999) -implicitDefEqProofs (disch:=omega)[aBool]
  refine Qd h1 rfl rfl (by decide) (wst15 _ _ _ _) ⟨rfl,rfl,rfl,rfl,rfl⟩ ?_
  intro σ2 h2 X2
  push_cast (maxSteps:=999999) -implicitDefEqProofs (disch:=omega)
  refine Qd h2 rfl rfl (by decide) (wst1 _ _ _ _) ⟨rfl,rfl,rfl,rfl,rfl⟩ ?_
  intro σ3 h3 X3
  push_cast (maxSteps:=999999) -implicitDefEqProofs (disch:=omega)
  exact ⟨_,h3⟩
 | false=>
  simp only[Bool.false_eq_true,if_false]
  push_cast (maxSteps:=999999) -implicitDefEqProofs (disch:=omega)[aBool]
  exact ⟨_,h1⟩
end
end Go.Proofs.YtelibaobkcokdaaGreat.Mx
