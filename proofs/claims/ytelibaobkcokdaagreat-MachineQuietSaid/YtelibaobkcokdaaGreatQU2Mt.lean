/- The machine: a worker's steps: what an iteration ends with; loops. -/
import Derived.Test.YtelibaobkcokdaaGreatQU2Ms
namespace Go.Proofs.YtelibaobkcokdaaGreat.Mx
set_option linter.unusedSectionVars false
set_option linter.unusedVariables false
set_option linter.unusedSimpArgs false
open Go Go.Kx Go.Proofs Go.Proofs.YtelibaobkcokdaaGreat
set_option maxRecDepth 8000
section
variable {q:Pm} {L:List Wk} {k jw jc:Nat} {pl0 pl:Pl} {σ0 σ:Kx.St} {x:WC}
theorem w_check_a (h:WM q L k jw jc pl0 σ0 pl σ x) {d:Rt} (hd:x.1.right=some d):FnG Tryz.prog 103 [.ref jw 0 0,.ref jc 0 0] σ fun _ σ'=>∃pl',WM q L k jw jc pl0 σ0 pl' σ' (checkF2 q x):=by
 refine Q2 X08 mixed rfl ?_
 simp only[Q79]
 have hw:=h.wk
 have hpt:=QC (j:=pl.p (.rt k)) hd
 push_cast (maxSteps:=999999) -implicitDefEqProofs (disch:=omega)[hw,hpt]
 refine Q0 h.Words_a ?_
 rintro a σ' ⟨rfl,hs⟩
 rw[hs];clear hs
 push_cast (maxSteps:=999999) -implicitDefEqProofs (disch:=omega)[hw,hpt]
 refine Q0 (h.step_right hd) ?_
 rintro a σ1 ⟨rfl,h1,X1⟩
 unfold checkF2
 simp only[hd]
 by_cases c1:(rtStep q d x.2.ws).1.next=3
 ·simp only[c1,decide_true,Bool.true_eq_false,if_false]
  have hw1:=h1.wk
  have hpt1:=QC (o:=some (rtStep q d x.2.ws).1) (j:=pl.p (.rt k)) rfl
  push_cast (maxSteps:=999999) -implicitDefEqProofs (disch:=omega)[aBool,hw1,hpt1]
  refine Q0 (right_Got_a (h1.rtc rfl)) ?_
  rintro a σ' ⟨rfl,hs⟩
  rw[hs];clear hs
  by_cases c2:x.1.gWhy=2
  ·rw[if_pos c2]
   push_cast (maxSteps:=999999) -implicitDefEqProofs (disch:=omega)[aBool,aInt,hw1,c2]
   refine Qd h1 rfl rfl (by decide) (wst14 _ _ _ _) ⟨rfl,rfl,rfl,rfl,rfl⟩ ?_
   intro σ2 h2 X2
   push_cast (maxSteps:=999999) -implicitDefEqProofs (disch:=omega)
   refine Q0 h2.frame_a ?_
   rintro a σ3 ⟨⟨i,off,rfl,hf⟩,h3,X3⟩
   obtain ⟨cs,hcs,g,_,_,_⟩:=hf.get
   have g11:=g 11 _ rfl
   have g14:=g 14 _ rfl
   have hw3:=h3.wk
   push_cast (maxSteps:=999999) -implicitDefEqProofs (disch:=omega)[hcs,g11,g14,hw3]
   refine Q0 (Q08 h3 _) ?_
   rintro a σ4 ⟨rfl,h4,X4⟩
   have hf4:=hf.ext X4 h4.mm rfl rfl
   obtain ⟨cs4,hcs4,g4,_,_,_⟩:=hf4.get
   have k14:=g4 14 _ rfl
   have hw4:=h4.wk
   push_cast (maxSteps:=999999) -implicitDefEqProofs (disch:=omega)[hcs4,k14,hw4]
   refine Q0 (Y90 q σ4 _ _ _) ?_
   rintro a σ' ⟨rfl,rfl⟩
   push_cast (maxSteps:=999999) -implicitDefEqProofs (disch:=omega)
   refine wpa_newwake h4 (d:=wakeNew (ringF (x.2.setW (rtStep q d x.2.ws).2) ((x.2.setW (rtStep q d x.2.ws).2).at x.1.holds).parent) ((x.2.setW (rtStep q d x.2.ws).2).at x.1.holds).index (!x.1.eHeld)) ?_
   intro pl5 σ5 h5 X5
   push_cast (maxSteps:=999999) -implicitDefEqProofs (disch:=omega)
   refine Qd h5 rfl rfl (by decide) (wst1 _ _ _ _) ⟨rfl,rfl,rfl,rfl,rfl⟩ ?_
   intro σ6 h6 X6
   push_cast (maxSteps:=999999) -implicitDefEqProofs (disch:=omega)
   exact ⟨pl5,by simpa only[c2] using h6⟩
  ·rw[if_neg c2]
   by_cases c3:x.1.gWhy=1
   ·simp only[if_pos c3]
    cases c4:(rtStep q d x.2.ws).1.got with
    | true=>
     simp only[if_true]
     push_cast (maxSteps:=999999) -implicitDefEqProofs (disch:=omega)[aBool,aInt,hw1,c3,c4]
     refine Q5 h1 (ZH h1.re _ .stop) ?_
     intro a pl2 σ2 h2 X2
     push_cast (maxSteps:=999999) -implicitDefEqProofs (disch:=omega)
     exact ⟨pl2,by simpa only[c3] using h2⟩
    | false=>
     simp only[Bool.false_eq_true,if_false]
     push_cast (maxSteps:=999999) -implicitDefEqProofs (disch:=omega)[aBool,aInt,hw1,c3,c4]
     refine Q7 ok_stop rfl (Jd h1) ?_
     rintro a σ2 ⟨pl2,h2⟩
     push_cast (maxSteps:=999999) -implicitDefEqProofs (disch:=omega)
     exact ⟨pl2,by simpa only[c3] using h2⟩
   ·simp only[if_neg c3]
    cases c4:(rtStep q d x.2.ws).1.got with
    | true=>
     simp only[if_true]
     push_cast (maxSteps:=999999) -implicitDefEqProofs (disch:=omega)[aBool,aInt,hw1,c2,c3,c4]
     refine Q5 h1 (ZH h1.re _ .decide) ?_
     intro a pl2 σ2 h2 X2
     push_cast (maxSteps:=999999) -implicitDefEqProofs (disch:=omega)
     exact ⟨_,h2⟩
    | false=>
     simp only[Bool.false_eq_true,if_false]
     push_cast (maxSteps:=999999) -implicitDefEqProofs (disch:=omega)[aBool,aInt,hw1,c2,c3,c4]
     refine Q7 ok_decide rfl (Y39 h1) ?_
     rintro a σ2 ⟨pl2,h2⟩
     push_cast (maxSteps:=999999) -implicitDefEqProofs (disch:=omega)
     exact ⟨_,h2⟩
 ·simp only[c1,decide_false,if_true]
  push_cast (maxSteps:=999999) -implicitDefEqProofs (disch:=omega)[aBool]
  exact ⟨_,h1⟩
theorem w_look_a (h:WM q L k jw jc pl0 σ0 pl σ x):FnG Tryz.prog 104 [.ref jw 0 0,.ref jc 0 0] σ fun _ σ'=>∃pl',WM q L k jw jc pl0 σ0 pl' σ' (lookF q x):=by
 refine Q2 X43 mixed rfl ?_
 simp only[Z6]
 push_cast (maxSteps:=999999) -implicitDefEqProofs (disch:=omega)
 refine Q0 h.frame_a ?_
 rintro a σ1 ⟨⟨i,off,rfl,hf⟩,h1,X1⟩
 obtain ⟨cs,hcs,g,_,_,_⟩:=hf.get
 have g11:=g 11 _ rfl
 have g14:=g 14 _ rfl
 push_cast (maxSteps:=999999) -implicitDefEqProofs (disch:=omega)[hcs,g11,g14]
 refine Q0 (Q08 h1 (x.2.at x.1.holds).parent) ?_
 rintro a σ2 ⟨rfl,h2,X2⟩
 have hf2:=hf.ext X2 h2.mm rfl rfl
 obtain ⟨cs2,hcs2,g2,_,_,_⟩:=hf2.get
 have k14:=g2 14 _ rfl
 push_cast (maxSteps:=999999) -implicitDefEqProofs (disch:=omega)[hcs2,k14]
 refine Q0 h2.Words_a ?_
 rintro a σ' ⟨rfl,hs⟩
 rw[hs];clear hs
 push_cast (maxSteps:=999999) -implicitDefEqProofs (disch:=omega)[hcs2,k14]
 refine Q0 (JR h2.mm.sd.ok h2.mm.words h2.mm.sd.ws _ _) ?_
 rintro a σ' ⟨rfl,hs⟩
 rw[hs];clear hs
 push_cast (maxSteps:=999999) -implicitDefEqProofs (disch:=omega)[aInt]
 refine Q35 h2 hf2 (f':={ x.2.at x.1.holds with fold:=ldW x.2.ws (q.word (x.2.at x.1.holds).parent (w64 ((x.2.at x.1.holds).index - 1)) 0) }) (by rw[show (_:Fm).regs=(x.2.at x.1.holds).regs from rfl];exact J28 h1.mm _) rfl rfl (by decide) rfl ?_
 intro σ3 h3 hf3
 obtain ⟨cs3,hcs3,g3,_,_,_⟩:=hf3.get
 have k16:=g3 16 _ rfl
 have hw3:=h3.wk
 have hfl:PF.av (.fld 6 none) [.agg (aPr q)]=some (.v (.bool q.lazy)):=rfl
 push_cast (maxSteps:=999999) -implicitDefEqProofs (disch:=omega)[hcs3,k16,hw3]
 refine Q1 (Y75 _ _) ?_
 rintro a rfl
 unfold lookF
 simp only
 by_cases c1:x.1.gStage < ldW x.2.ws (q.word (x.2.at x.1.holds).parent (w64 ((x.2.at x.1.holds).index - 1)) 0)
 ·simp only[c1,if_true]
  push_cast (maxSteps:=999999) -implicitDefEqProofs (disch:=omega)[aBool,c1]
  refine Q5 h3 (G7 h3.re) ?_
  intro a pl4 σ4 h4 X4
  push_cast (maxSteps:=999999) -implicitDefEqProofs (disch:=omega)
  exact ⟨_,h4⟩
 ·simp only[c1,if_false]
  push_cast (maxSteps:=999999) -implicitDefEqProofs (disch:=omega)[aBool,c1]
  refine Q0 h3.Params_a ?_
  rintro a σ' ⟨rfl,hs⟩
  rw[hs];clear hs
  cases c2:q.lazy with
  | true=>
   rw[c2] at hfl
   cases c3:x.1.gLooked with
   | false=>
    simp only[and_self,if_true]
    push_cast (maxSteps:=999999) -implicitDefEqProofs (disch:=omega)[aBool,hfl,hw3,c3]
    refine Qd h3 rfl rfl (by decide) (wst10 _ _ _ _) ⟨rfl,rfl,rfl,rfl,rfl⟩ ?_
    intro σ4 h4 X4
    have hw4:=h4.wk
    push_cast (maxSteps:=999999) -implicitDefEqProofs (disch:=omega)[hw4]
    refine Q5 h4 (X30 h4.re 1 x.1.gStage) ?_
    intro a pl5 σ5 h5 X5
    push_cast (maxSteps:=999999) -implicitDefEqProofs (disch:=omega)
    exact ⟨_,h5⟩
   | true=>
    simp only[Bool.true_eq_false,and_false,if_false]
    push_cast (maxSteps:=999999) -implicitDefEqProofs (disch:=omega)[aBool,hfl,hw3,c3]
    refine Q5 h3 (Jd h3.re) ?_
    intro a pl4 σ4 h4 X4
    push_cast (maxSteps:=999999) -implicitDefEqProofs (disch:=omega)
    exact ⟨_,h4⟩
  | false=>
   rw[c2] at hfl
   simp only[Bool.false_eq_true,false_and,if_false]
   push_cast (maxSteps:=999999) -implicitDefEqProofs (disch:=omega)[aBool,hfl,hw3]
   refine Q5 h3 (Jd h3.re) ?_
   intro a pl4 σ4 h4 X4
   push_cast (maxSteps:=999999) -implicitDefEqProofs (disch:=omega)
   exact ⟨_,h4⟩
theorem w_ends_a (h:WM q L k jw jc pl0 σ0 pl σ x) (hb:x.2.log.length≤1000000000):FnG Tryz.prog 179 [.ref jw 0 0,.ref jc 0 0] σ fun _ σ'=>∃pl',WM q L k jw jc pl0 σ0 pl' σ' (endsF q x):=by
 refine Q2 X48 mixed rfl ?_
 simp only[Zb]
 push_cast (maxSteps:=999999) -implicitDefEqProofs (disch:=omega)
 refine Q0 h.frame_a ?_
 rintro a σ1 ⟨⟨i,off,rfl,hf⟩,h1,X1⟩
 obtain ⟨cs,hcs,g,_,_,_⟩:=hf.get
 have g11:=g 11 _ rfl
 have g14:=g 14 _ rfl
 push_cast (maxSteps:=999999) -implicitDefEqProofs (disch:=omega)[hcs,g11,g14]
 refine Q0 (Q08 h1 (x.2.at x.1.holds).parent) ?_
 rintro a σ2 ⟨rfl,h2,X2⟩
 have hf2:=hf.ext X2 h2.mm rfl rfl
 obtain ⟨cs2,hcs2,g2,_,_,_⟩:=hf2.get
 have k14:=g2 14 _ rfl
 push_cast (maxSteps:=999999) -implicitDefEqProofs (disch:=omega)[hcs2,k14]
 refine Q0 h2.Words_a ?_
 rintro a σ' ⟨rfl,hs⟩
 rw[hs];clear hs
 push_cast (maxSteps:=999999) -implicitDefEqProofs (disch:=omega)[hcs2,k14]
 refine Q0 (JS h2.mm.sd.ok h2.mm.words h2.mm.sd.ws _ _ _) ?_
 rintro a σ3 hs3
 obtain ⟨h3,X3⟩:=h2.setW (Q62 _ _ _)
 rw[←hs3] at h3 X3
 clear hs3
 push_cast (maxSteps:=999999) -implicitDefEqProofs (disch:=omega)
 refine Q5 h3 (Y03 h3.re hb 4) ?_
 intro a pl4 σ4 h4 X4
 push_cast (maxSteps:=999999) -implicitDefEqProofs (disch:=omega)
 refine Q5 h4 (X30 h4.re 2 1048576) ?_
 intro a pl5 σ5 h5 X5
 push_cast (maxSteps:=999999) -implicitDefEqProofs (disch:=omega)
 exact ⟨_,h5⟩
end
end Go.Proofs.YtelibaobkcokdaaGreat.Mx
