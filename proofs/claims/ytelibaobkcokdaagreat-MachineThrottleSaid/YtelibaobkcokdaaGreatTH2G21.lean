/- The machine: a worker's steps: crossings, ends, loops. -/
import Derived.Test.YtelibaobkcokdaaGreatTH2G20
namespace Go.Proofs.YtelibaobkcokdaaGreat.Mx
set_option linter.unusedSectionVars false
set_option linter.unusedVariables false
set_option linter.unusedSimpArgs false
open Go Go.Kx Go.Proofs Go.Proofs.YtelibaobkcokdaaGreat
set_option maxRecDepth 8000
section
variable {q:Pm} {L:List Wk} {k jw jc:Nat} {pl0 pl:Pl} {σ0 σ:Kx.St} {x:WC}
def Lc (pl:Pl) (σ:Kx.St) (j:Nat) (r:Res):Prop:=σ[j]?=some r∧∀ro,pl.p ro≠j
theorem Lc.ext {j:Nat} {r:Res} (h:Lc pl σ j r) {pl':Pl} {σ':Kx.St} (X:Ext pl pl' σ σ'):Lc pl' σ' j r:=by
 refine ⟨by rw[X.keep j (Qh h.1) h.2];exact h.1,fun ro=>?_⟩;rcases X.new ro with e|e
 ·rw[e];exact h.2 ro
 ·have:=Qh h.1;omega
theorem WM.lc (h:WM q L k jw jc pl0 σ0 pl σ x) (r:Res):Lc pl (σ++[r]) σ.length r:=⟨Qe _ _,fun ro=>by have:=h.mm.lt ro;omega⟩
theorem w_advance_a (h:WM q L k jw jc pl0 σ0 pl σ x) (hb:x.2.log.length≤1000000000):FnG Tryz.prog 101 [.ref jw 0 0,.ref jc 0 0] σ fun _ σ'=>∃pl',WM q L k jw jc pl0 σ0 pl' σ' (advanceF q x):=by
 refine Q3 Q40.2 mixed rfl ?_;simp only[Q40,qH];push_cast -implicitDefEqProofs;refine Q0 h.frame_a ?_;rintro a σ1 ⟨⟨i,off,rfl,hf⟩,h1,X1⟩;obtain ⟨cs,hcs,g,_,_,_⟩:=hf.get;have g11:=g 11 _ rfl;have g14:=g 14 _ rfl;have hw1:=h1.wk;push_cast -implicitDefEqProofs[hcs,g11,g14,hw1];refine Q0 (Q21 h1 (x.2.at x.1.holds).parent) ?_;rintro a σ2 ⟨rfl,h2,X2⟩;have hf2:=hf.ext X2 h2.mm rfl rfl;obtain ⟨cs2,hcs2,g2,_,_,_⟩:=hf2.get;have k14:=g2 14 _ rfl;have hw2:=h2.wk;push_cast -implicitDefEqProofs[hcs2,k14,hw2];refine Q4 h2.Words_a ?_;push_cast -implicitDefEqProofs[hcs2,k14,hw2];refine Q0 (YR h2.mm.sd.ok h2.mm.words h2.mm.sd.ws _ _ _) ?_;rintro a σ3 hs3;obtain ⟨h3,X3⟩:=h2.setW (Qk _ _ _);rw[←hs3] at h3 X3;clear hs3;have hf3:=hf2.ext X3 h3.mm rfl rfl;obtain ⟨cs3,hcs3,g3,_,_,_⟩:=hf3.get;have k15:=g3 15 _ rfl;have hw3:=h3.wk;push_cast -implicitDefEqProofs[hcs3,k15,hw3];refine Q43 h3 hf3 (f':={ x.2.at x.1.holds with stage:=x.1.gStage }) (by rw[show (_:Fm).regs=(x.2.at x.1.holds).regs from rfl];exact Y23 h1.mm _) rfl rfl ko rfl ?_;intro σ4 h4 hf4;have hb4:((x.2.setW (stW x.2.ws (q.word (x.2.at x.1.holds).parent (x.2.at x.1.holds).index 0) x.1.gStage)).setFr x.1.holds { x.2.at x.1.holds with stage:=x.1.gStage }).log.length≤1000000000:=by unfold Cs.setFr;split<;>exact hb
 have hw4:=h4.wk;unfold advanceF;simp only
 cases c1:x.1.gWaits with
 | true=>
  simp only[if_true];have hw5:=h4.wk;push_cast -implicitDefEqProofs[hw5,c1];refine Q7 h4 (X33 h4.re hb4 3) ?_;intro a pl5 σ5 h5 X5;by_cases c2:(x.2.at x.1.holds).stage=0
  ·have hf5:=hf4.ext X5 h5.mm rfl rfl;obtain ⟨cs5,hcs5,g5,_,_,_⟩:=hf5.get;have m11:=g5 11 _ rfl;simp only[c2,if_true];push_cast -implicitDefEqProofs[hcs5,m11,c2];refine Q7 h5 (ZC h5.re (x.2.at x.1.holds).parent .looksOn) ?_;intro a pl6 σ6 h6 X6;push_cast -implicitDefEqProofs;exact ⟨_,h6⟩
  ·simp only[c2,if_false];push_cast -implicitDefEqProofs[c2];refine Q7 h5 (X06 h5.re) ?_;intro a pl6 σ6 h6 X6;push_cast -implicitDefEqProofs;exact ⟨_,h6⟩
 | false=>
  simp only[Bool.false_eq_true,if_false];have hw5:=h4.wk;push_cast -implicitDefEqProofs[hw5,c1];refine Q7 h4 (X33 h4.re hb4 6) ?_;intro a pl5 σ5 h5 X5;by_cases c2:(x.2.at x.1.holds).stage=0
  ·have hf5:=hf4.ext X5 h5.mm rfl rfl;obtain ⟨cs5,hcs5,g5,_,_,_⟩:=hf5.get;have m11:=g5 11 _ rfl;simp only[c2,if_true];push_cast -implicitDefEqProofs[hcs5,m11,c2];refine Q7 h5 (ZC h5.re (x.2.at x.1.holds).parent .looksOn) ?_;intro a pl6 σ6 h6 X6;push_cast -implicitDefEqProofs;exact ⟨_,h6⟩
  ·simp only[c2,if_false];push_cast -implicitDefEqProofs[c2];refine Q7 h5 (X06 h5.re) ?_;intro a pl6 σ6 h6 X6;push_cast -implicitDefEqProofs;exact ⟨_,h6⟩
theorem w_peek_a (h:WM q L k jw jc pl0 σ0 pl σ x):FnG Tryz.prog 102 [.ref jw 0 0,.ref jc 0 0] σ fun _ σ'=>∃pl',WM q L k jw jc pl0 σ0 pl' σ' (peekF q x):=by
 refine Q3 Z3.2 mixed rfl ?_;simp only[Z3,qH];have hw:=h.wk;have ⟨a1,a2⟩:=h.mm.sd.ok.base_in x.1.own;have ⟨b1,b2⟩:=h.mm.sd.ok.wide_in;have ⟨c1,c2⟩:=h.mm.sd.ok.FF;have e0:q.size=q.W * q.wide+q.F * q.room:=rfl;have hwl:=h.mm.sd.ws;push_cast -implicitDefEqProofs[hw];refine Q4 h.Words_a ?_;push_cast -implicitDefEqProofs[hw];refine Q4 h.Plan_a ?_;push_cast -implicitDefEqProofs[hw];refine Q5 (Q37 h.mm.sd.ok x.1.own) ?_;push_cast -implicitDefEqProofs[hw];refine Q4 (Xt h.mm.words a1 ka) ?_;by_cases c:x.1.tail≤ldW x.2.ws (q.base x.1.own)
 ·have e:peekF q x=checksF x 0 x.1.gStage:=if_pos c;rw[e];push_cast -implicitDefEqProofs[aInt,aBool,hw,c];refine Q7 h (XO h.re 0 x.1.gStage) ?_;intro a pl1 σ1 h1 X1;push_cast -implicitDefEqProofs;exact ⟨_,h1⟩
 ·have e:peekF q x=decideF q ({ x.1 with gLooked:=false },x.2):=if_neg c;rw[e];push_cast -implicitDefEqProofs[aInt,aBool,hw,c];refine Qf h rfl rfl ko (wst10 _ _ _ _) ⟨rfl,rfl,rfl,rfl,rfl⟩ ?_;intro σ1 h1 X1;push_cast -implicitDefEqProofs;refine Q7 h1 (X53 h1.re) ?_;intro a pl2 σ2 h2 X2;push_cast -implicitDefEqProofs;exact ⟨_,h2⟩
theorem w_parks_a (h:WM q L k jw jc pl0 σ0 pl σ x) {d:Pk} (hd:x.1.park=some d):FnG Tryz.prog 105 [.ref jw 0 0,.ref jc 0 0] σ fun _ σ'=>∃pl',WM q L k jw jc pl0 σ0 pl' σ' (parksF q x):=by
 refine Q3 Q82.2 mixed rfl ?_;simp only[Q82,qH];have hw:=h.wk;have hpt:=QK (j:=pl.p (.pk k)) hd;push_cast -implicitDefEqProofs[hw,hpt];refine Q4 h.Words_a ?_;push_cast -implicitDefEqProofs[hw,hpt];refine Q0 (h.step_park hd) ?_;rintro a σ1 ⟨rfl,h1,X1⟩;unfold parksF;simp only[hd];by_cases c1:(pkStep q d x.2.ws).1.next=3
 ·simp only[c1,decide_true,Bool.true_eq_false,if_false];have hw1:=h1.wk;have hpt1:=QK (o:=some (pkStep q d x.2.ws).1) (j:=pl.p (.pk k)) rfl;push_cast -implicitDefEqProofs[aBool,hw1,hpt1];refine Q4 (park_Back_a (h1.pkc rfl)) ?_
  cases c2:(pkStep q d x.2.ws).1.back with
  | true=>simp only[if_true];push_cast -implicitDefEqProofs[aBool,hw1];refine Q7 h1 (Z41 h1.re _) ?_;intro a pl2 σ2 h2 X2;push_cast -implicitDefEqProofs;exact ⟨_,h2⟩
  | false=>simp only[Bool.false_eq_true,if_false];push_cast -implicitDefEqProofs[aBool];refine Q7 h1 (XN h1.re) ?_;intro a pl2 σ2 h2 X2;push_cast -implicitDefEqProofs;exact ⟨_,h2⟩
 ·simp only[c1,decide_false,if_true];push_cast -implicitDefEqProofs[aBool];exact ⟨_,h1⟩
theorem w_naps_a (h:WM q L k jw jc pl0 σ0 pl σ x) {d:Tw} (hd:x.1.nap=some d):FnG Tryz.prog 185 [.ref jw 0 0,.ref jc 0 0] σ fun _ σ'=>∃pl',WM q L k jw jc pl0 σ0 pl' σ' (napsF q x):=by
 refine Q3 Zc.2 mixed rfl ?_;simp only[Zc,qH];have hw:=h.wk;have hpt:=QK (j:=pl.p (.np k)) hd;push_cast -implicitDefEqProofs[hw,hpt];refine Q4 h.Words_a ?_;push_cast -implicitDefEqProofs[hw,hpt];refine Q0 (h.step_nap hd) ?_;rintro a σ1 ⟨rfl,h1,X1⟩;unfold napsF;simp only[hd]
 cases c1:(napStep q d x.2.ws).1.over with
 | true=>
  simp only[Bool.true_eq_false,if_false];have hw1:=h1.wk;have hpt1:=QK (o:=some (napStep q d x.2.ws).1) (j:=pl.p (.np k)) rfl;push_cast -implicitDefEqProofs[aBool,hw1,hpt1];refine Q4 (nap_Back_a (h1.npc rfl)) ?_
  cases c2:(napStep q d x.2.ws).1.won with
  | true=>simp only[if_true];push_cast -implicitDefEqProofs[aBool,hw1];refine Qf h1 rfl rfl ko (wst2 _ _ _ _) ⟨rfl,rfl,rfl,rfl,rfl⟩ ?_;intro σ2 h2 X2;push_cast -implicitDefEqProofs;refine Qf h2 rfl rfl ko (wst1 _ _ _ _) ⟨rfl,rfl,rfl,rfl,rfl⟩ ?_;intro σ3 h3 X3;push_cast -implicitDefEqProofs;exact ⟨_,h3⟩
  | false=>simp only[Bool.false_eq_true,if_false];push_cast -implicitDefEqProofs[aBool];refine Q7 h1 (XN h1.re) ?_;intro a pl2 σ2 h2 X2;push_cast -implicitDefEqProofs;exact ⟨_,h2⟩
 | false=>simp only[if_true];push_cast -implicitDefEqProofs[aBool];exact ⟨_,h1⟩
theorem w_closes_a (h:WM q L k jw jc pl0 σ0 pl σ x) {d:Tw} (hd:x.1.wake=some d):FnG Tryz.prog 180 [.ref jw 0 0,.ref jc 0 0] σ fun _ σ'=>∃pl',WM q L k jw jc pl0 σ0 pl' σ' (closesF q x):=by
 refine Q3 Q60.2 mixed rfl ?_;simp only[Q60,qH];have hw:=h.wk;have hpt:=QK (j:=pl.p (.wa k)) hd;push_cast -implicitDefEqProofs[hw,hpt];refine Q4 h.Words_a ?_;push_cast -implicitDefEqProofs[hw,hpt];refine Q0 (h.step_wake hd) ?_;rintro a σ1 ⟨rfl,h1,X1⟩;unfold closesF;simp only[hd]
 cases c1:(wakeStep q d x.2.ws).1.over with
 | true=>simp only[if_true];have hw1:=h1.wk;have hpt1:=QK (o:=some (wakeStep q d x.2.ws).1) (j:=pl.p (.wa k)) rfl;push_cast -implicitDefEqProofs[aBool,hw1,hpt1];refine Q4 (wake_Got_a (h1.wac rfl)) ?_;push_cast -implicitDefEqProofs[aBool];refine Qf h1 rfl rfl ko (wst15 _ _ _ _) ⟨rfl,rfl,rfl,rfl,rfl⟩ ?_;intro σ2 h2 X2;push_cast -implicitDefEqProofs;refine Qf h2 rfl rfl ko (wst1 _ _ _ _) ⟨rfl,rfl,rfl,rfl,rfl⟩ ?_;intro σ3 h3 X3;push_cast -implicitDefEqProofs;exact ⟨_,h3⟩
 | false=>simp only[Bool.false_eq_true,if_false];push_cast -implicitDefEqProofs[aBool];exact ⟨_,h1⟩
end
section
variable {q:Pm} {L:List Wk} {k jw jc:Nat} {pl0 pl:Pl} {σ0 σ:Kx.St} {x:WC}
theorem w_check_a (h:WM q L k jw jc pl0 σ0 pl σ x) {d:Rt} (hd:x.1.right=some d):FnG Tryz.prog 103 [.ref jw 0 0,.ref jc 0 0] σ fun _ σ'=>∃pl',WM q L k jw jc pl0 σ0 pl' σ' (checkF2 q x):=by
 refine Q3 Q81.2 mixed rfl ?_;simp only[Q81,qH];have hw:=h.wk;have hpt:=QK (j:=pl.p (.rt k)) hd;push_cast -implicitDefEqProofs[hw,hpt];refine Q4 h.Words_a ?_;push_cast -implicitDefEqProofs[hw,hpt];refine Q0 (h.step_right hd) ?_;rintro a σ1 ⟨rfl,h1,X1⟩;unfold checkF2;simp only[hd];by_cases c1:(rtStep q d x.2.ws).1.next=3
 ·simp only[c1,decide_true,Bool.true_eq_false,if_false];have hw1:=h1.wk;have hpt1:=QK (o:=some (rtStep q d x.2.ws).1) (j:=pl.p (.rt k)) rfl;push_cast -implicitDefEqProofs[aBool,hw1,hpt1];refine Q4 (right_Got_a (h1.rtc rfl)) ?_;by_cases c2:x.1.gWhy=2
  ·rw[if_pos c2];push_cast -implicitDefEqProofs[aBool,aInt,hw1,c2];refine Qf h1 rfl rfl ko (wst14 _ _ _ _) ⟨rfl,rfl,rfl,rfl,rfl⟩ ?_;intro σ2 h2 X2;push_cast -implicitDefEqProofs;refine Q0 h2.frame_a ?_;rintro a σ3 ⟨⟨i,off,rfl,hf⟩,h3,X3⟩;obtain ⟨cs,hcs,g,_,_,_⟩:=hf.get;have g11:=g 11 _ rfl;have g14:=g 14 _ rfl;have hw3:=h3.wk;push_cast -implicitDefEqProofs[hcs,g11,g14,hw3];refine Q0 (Q21 h3 _) ?_;rintro a σ4 ⟨rfl,h4,X4⟩;have hf4:=hf.ext X4 h4.mm rfl rfl;obtain ⟨cs4,hcs4,g4,_,_,_⟩:=hf4.get;have k14:=g4 14 _ rfl;have hw4:=h4.wk;push_cast -implicitDefEqProofs[hcs4,k14,hw4];refine Q4 (Y2 q σ4 _ _ _) ?_;push_cast -implicitDefEqProofs;refine wpa_newwake h4 (d:=wakeNew (ringF (x.2.setW (rtStep q d x.2.ws).2) ((x.2.setW (rtStep q d x.2.ws).2).at x.1.holds).parent) ((x.2.setW (rtStep q d x.2.ws).2).at x.1.holds).index (!x.1.eHeld)) ?_;intro pl5 σ5 h5 X5;push_cast -implicitDefEqProofs;refine Qf h5 rfl rfl ko (wst1 _ _ _ _) ⟨rfl,rfl,rfl,rfl,rfl⟩ ?_;intro σ6 h6 X6;push_cast -implicitDefEqProofs;exact ⟨pl5,by simpa only[c2] using h6⟩
  ·rw[if_neg c2];by_cases c3:x.1.gWhy=1
   ·simp only[if_pos c3]
    cases c4:(rtStep q d x.2.ws).1.got with
    | true=>simp only[if_true];push_cast -implicitDefEqProofs[aBool,aInt,hw1,c3,c4];refine Q7 h1 (ZC h1.re _ .stop) ?_;intro a pl2 σ2 h2 X2;push_cast -implicitDefEqProofs;exact ⟨pl2,by simpa only[c3] using h2⟩
    | false=>simp only[Bool.false_eq_true,if_false];push_cast -implicitDefEqProofs[aBool,aInt,hw1,c3,c4];refine Q8 ok_stop rfl (Yf h1) ?_;rintro a σ2 ⟨pl2,h2⟩;push_cast -implicitDefEqProofs;exact ⟨pl2,by simpa only[c3] using h2⟩
   ·simp only[if_neg c3]
    cases c4:(rtStep q d x.2.ws).1.got with
    | true=>simp only[if_true];push_cast -implicitDefEqProofs[aBool,aInt,hw1,c2,c3,c4];refine Q7 h1 (ZC h1.re _ .decide) ?_;intro a pl2 σ2 h2 X2;push_cast -implicitDefEqProofs;exact ⟨_,h2⟩
    | false=>simp only[Bool.false_eq_true,if_false];push_cast -implicitDefEqProofs[aBool,aInt,hw1,c2,c3,c4];refine Q8 ok_decide rfl (X53 h1) ?_;rintro a σ2 ⟨pl2,h2⟩;push_cast -implicitDefEqProofs;exact ⟨_,h2⟩
 ·simp only[c1,decide_false,if_true];push_cast -implicitDefEqProofs[aBool];exact ⟨_,h1⟩
theorem w_look_a (h:WM q L k jw jc pl0 σ0 pl σ x):FnG Tryz.prog 104 [.ref jw 0 0,.ref jc 0 0] σ fun _ σ'=>∃pl',WM q L k jw jc pl0 σ0 pl' σ' (lookF q x):=by
 refine Q3 Z4.2 mixed rfl ?_;simp only[Z4,qH];push_cast -implicitDefEqProofs;refine Q0 h.frame_a ?_;rintro a σ1 ⟨⟨i,off,rfl,hf⟩,h1,X1⟩;obtain ⟨cs,hcs,g,_,_,_⟩:=hf.get;have g11:=g 11 _ rfl;have g14:=g 14 _ rfl;push_cast -implicitDefEqProofs[hcs,g11,g14];refine Q0 (Q21 h1 (x.2.at x.1.holds).parent) ?_;rintro a σ2 ⟨rfl,h2,X2⟩;have hf2:=hf.ext X2 h2.mm rfl rfl;obtain ⟨cs2,hcs2,g2,_,_,_⟩:=hf2.get;have k14:=g2 14 _ rfl;push_cast -implicitDefEqProofs[hcs2,k14];refine Q4 h2.Words_a ?_;push_cast -implicitDefEqProofs[hcs2,k14];refine Q4 (YQ h2.mm.sd.ok h2.mm.words h2.mm.sd.ws _ _) ?_;push_cast -implicitDefEqProofs[aInt];refine Q43 h2 hf2 (f':={ x.2.at x.1.holds with fold:=ldW x.2.ws (q.word (x.2.at x.1.holds).parent (w64 ((x.2.at x.1.holds).index - 1)) 0) }) (by rw[show (_:Fm).regs=(x.2.at x.1.holds).regs from rfl];exact Y23 h1.mm _) rfl rfl ko rfl ?_;intro σ3 h3 hf3;obtain ⟨cs3,hcs3,g3,_,_,_⟩:=hf3.get;have k16:=g3 16 _ rfl;have hw3:=h3.wk;have hfl:PF.av (.fld 6 none) [.agg (aPr q)]=some (.v (.bool q.lazy)):=rfl;push_cast -implicitDefEqProofs[hcs3,k16,hw3];refine Q5 (X97 _ _) ?_;unfold lookF;simp only;by_cases c1:x.1.gStage < ldW x.2.ws (q.word (x.2.at x.1.holds).parent (w64 ((x.2.at x.1.holds).index - 1)) 0)
 ·simp only[c1,if_true];push_cast -implicitDefEqProofs[aBool,c1];refine Q7 h3 (Y91 h3.re) ?_;intro a pl4 σ4 h4 X4;push_cast -implicitDefEqProofs;exact ⟨_,h4⟩
 ·simp only[c1,if_false];push_cast -implicitDefEqProofs[aBool,c1];refine Q4 h3.Params_a ?_
  cases c2:q.lazy with
  | true=>
   rw[c2] at hfl
   cases c3:x.1.gLooked with
   | false=>simp only[and_self,if_true];push_cast -implicitDefEqProofs[aBool,hfl,hw3,c3];refine Qf h3 rfl rfl ko (wst10 _ _ _ _) ⟨rfl,rfl,rfl,rfl,rfl⟩ ?_;intro σ4 h4 X4;have hw4:=h4.wk;push_cast -implicitDefEqProofs[hw4];refine Q7 h4 (XO h4.re 1 x.1.gStage) ?_;intro a pl5 σ5 h5 X5;push_cast -implicitDefEqProofs;exact ⟨_,h5⟩
   | true=>simp only[Bool.true_eq_false,and_false,if_false];push_cast -implicitDefEqProofs[aBool,hfl,hw3,c3];refine Q7 h3 (Yf h3.re) ?_;intro a pl4 σ4 h4 X4;push_cast -implicitDefEqProofs;exact ⟨_,h4⟩
  | false=>rw[c2] at hfl;simp only[Bool.false_eq_true,false_and,if_false];push_cast -implicitDefEqProofs[aBool,hfl,hw3];refine Q7 h3 (Yf h3.re) ?_;intro a pl4 σ4 h4 X4;push_cast -implicitDefEqProofs;exact ⟨_,h4⟩
theorem w_ends_a (h:WM q L k jw jc pl0 σ0 pl σ x) (hb:x.2.log.length≤1000000000):FnG Tryz.prog 179 [.ref jw 0 0,.ref jc 0 0] σ fun _ σ'=>∃pl',WM q L k jw jc pl0 σ0 pl' σ' (endsF q x):=by refine Q3 Z9.2 mixed rfl ?_;simp only[Z9,qH];push_cast -implicitDefEqProofs;refine Q0 h.frame_a ?_;rintro a σ1 ⟨⟨i,off,rfl,hf⟩,h1,X1⟩;obtain ⟨cs,hcs,g,_,_,_⟩:=hf.get;have g11:=g 11 _ rfl;have g14:=g 14 _ rfl;push_cast -implicitDefEqProofs[hcs,g11,g14];refine Q0 (Q21 h1 (x.2.at x.1.holds).parent) ?_;rintro a σ2 ⟨rfl,h2,X2⟩;have hf2:=hf.ext X2 h2.mm rfl rfl;obtain ⟨cs2,hcs2,g2,_,_,_⟩:=hf2.get;have k14:=g2 14 _ rfl;push_cast -implicitDefEqProofs[hcs2,k14];refine Q4 h2.Words_a ?_;push_cast -implicitDefEqProofs[hcs2,k14];refine Q0 (YR h2.mm.sd.ok h2.mm.words h2.mm.sd.ws _ _ _) ?_;rintro a σ3 hs3;obtain ⟨h3,X3⟩:=h2.setW (Qk _ _ _);rw[←hs3] at h3 X3;clear hs3;push_cast -implicitDefEqProofs;refine Q7 h3 (X33 h3.re hb 4) ?_;intro a pl4 σ4 h4 X4;push_cast -implicitDefEqProofs;refine Q7 h4 (XO h4.re 2 1048576) ?_;intro a pl5 σ5 h5 X5;push_cast -implicitDefEqProofs;exact ⟨_,h5⟩
end
section
variable {q:Pm} {L:List Wk} {k jw jc:Nat} {pl0 pl:Pl} {σ0 σ:Kx.St} {x:WC}
theorem WM.Free_a (h:WM q L k jw jc pl0 σ0 pl σ x) (hb:x.2.back.length≤1000000000) (id:Int):FnG Tryz.prog 247 [.ref (pl.p .t) 0 0,.v (.int .i64 id)] σ fun _ σ'=>∃pl',WM q L k jw jc pl0 σ0 pl' σ' (x.1,x.2.free id):=
 FnG.mono (frame_Free_a h.mm hb id) fun _ σ' o=>by obtain ⟨pl',h',_⟩:=h.out o;exact ⟨pl',h'⟩
theorem Y92 (h:WM q L k jw jc pl0 σ0 pl σ x) (hb:x.2.back.length≤1000000000) (f:Fm) (hr:f.regs.length=8):FnG Tryz.prog 254 [.ref jw 0 0,.ref jc 0 0,.agg (aFm f)] σ fun a σ'=>∃pl',WM q L k jw jc pl0 σ0 pl' σ' (x.1,(makeF q x.2 f).2)∧Ext pl pl' σ σ'∧(match (makeF q x.2 f).1 with|none=>a=.tup [aInt 0,aBool false]|some id=>a=.tup [aInt id,aBool true]):=by
 refine Q3 Zj.2 mixed rfl ?_;simp only[Zj,qH];push_cast -implicitDefEqProofs;refine Q6 ?_;push_cast -implicitDefEqProofs;refine Q4 h.Frames_a ?_;push_cast -implicitDefEqProofs;refine Q0 (X96 h.mm hb f hr) ?_;intro a σ1 H1
 cases e:x.2.make q f with
 | none=>
  rw[e] at H1;obtain ⟨rfl,hs⟩:=H1;rw[hs];have e1:makeF q x.2 f=(none,x.2.stop 5 1):=by simp[makeF,e]
  rw[e1];push_cast -implicitDefEqProofs[aInt,aBool];refine Q7 h (h.re.Stop_a 5 1) ?_;intro a pl1 σ2 h2 X2;push_cast -implicitDefEqProofs;exact ⟨_,h2,X2⟩
 | some y=>
  obtain ⟨id,s'⟩:=y;rw[e] at H1;obtain ⟨rfl,o⟩:=H1;obtain ⟨pl1,h1,X1⟩:=h.out o;have e1:makeF q x.2 f=(some id,s'):=by simp[makeF,e]
  rw[e1];push_cast -implicitDefEqProofs[aInt,aBool];exact ⟨_,h1,X1⟩
theorem w_next_a (h:WM q L k jw jc pl0 σ0 pl σ x) (loop:Int):FnG Tryz.prog 248 [.ref jw 0 0,.ref jc 0 0,.v (.int .i64 loop)] σ fun _ σ'=>∃pl',WM q L k jw jc pl0 σ0 pl' σ' (nextF x loop):=by
 refine Q3 Zi.2 mixed rfl ?_;simp only[Zi,qH];push_cast -implicitDefEqProofs;refine Q6 ?_;have hw:=h.wk;push_cast -implicitDefEqProofs[hw];refine Qm ?_;push_cast -implicitDefEqProofs;refine Q9 rfl rfl (Qe _ _) ke ?_;push_cast -implicitDefEqProofs;have h1:=h.app [Res.obj 0 [AV.v (.int .i64 x.1.eRight)]];have hw1:=h1.wk;have hz:=Qe σ (Res.obj 0 [AV.v (.int .i64 x.1.eRight)]);by_cases c1:0 < x.1.eRight
 ·cases c2:x.1.eWoken with
  | true=>
   have e:nextF x loop=(x.1.pushes loop (.takes x.1.eRight),x.2):=if_pos ⟨c1,c2⟩;rw[e];push_cast -implicitDefEqProofs[hw1,hz,c1,c2];have h2:=h.app [Res.frz 0 [AV.v (.int .i64 x.1.eRight)]];have hw3:=h2.wk;refine Y05 (fs:=[false,false,false,true]) (vs':=[.ref jw 0 0,.ref jc 0 0,.v (.int .i64 loop),aTh jw (.takes x.1.eRight)]) rfl ?_ ?_
   ·simp[weak,aTh,AV.res,AV.resL,hw3]
   refine Q7 h2 (ZC h2.re loop (.takes x.1.eRight)) ?_;intro a pl3 σ3 h3 X3;push_cast -implicitDefEqProofs;exact ⟨_,h3⟩
  | false=>
   have e:nextF x loop=(x.1.takes x.2 x.1.eRight,x.2):=by simp[nextF,c1,c2]
   rw[e];push_cast -implicitDefEqProofs[hw1,hz,c1,c2];refine Q7 h1 (XB h1.re _) ?_;intro a pl3 σ3 h3 X3;push_cast -implicitDefEqProofs;exact ⟨_,h3⟩
 ·cases c2:x.1.eWoken with
  | true=>
   have e:nextF x loop=(x.1.takes x.2 loop,x.2):=by simp[nextF,c1,c2]
   rw[e];push_cast -implicitDefEqProofs[hw1,hz,c1,c2];refine Q7 h1 (XB h1.re loop) ?_;intro a pl3 σ3 h3 X3;push_cast -implicitDefEqProofs;exact ⟨_,h3⟩
  | false=>
   have e:nextF x loop=(x.1.goes,x.2):=by simp[nextF,c1,c2]
   rw[e];push_cast -implicitDefEqProofs[hw1,hz,c1,c2];refine Q7 h1 (XN h1.re) ?_;intro a pl3 σ3 h3 X3;push_cast -implicitDefEqProofs;exact ⟨_,h3⟩
theorem w_drop_a (h:WM q L k jw jc pl0 σ0 pl σ x) (hb:x.2.back.length≤1000000000):FnG Tryz.prog 181 [.ref jw 0 0,.ref jc 0 0] σ fun _ σ'=>∃pl',WM q L k jw jc pl0 σ0 pl' σ' (dropF q x):=by
 refine Q3 Za.2 mixed rfl ?_;simp only[Za,qH];push_cast -implicitDefEqProofs;refine Q0 h.frame_a ?_;rintro a σ1 ⟨⟨i,off,rfl,hf⟩,h1,X1⟩;obtain ⟨cs,hcs,g,_,_,_⟩:=hf.get;have g11:=g 11 _ rfl;have hw1:=h1.wk;push_cast -implicitDefEqProofs[hcs,g11,hw1];refine Q4 h1.Frames_a ?_;push_cast -implicitDefEqProofs[hcs,g11,hw1];refine Q7 h1 (h1.re.Free_a hb x.1.holds) ?_;intro a pl2 σ2 h2 X2;push_cast -implicitDefEqProofs;refine Qf h2 rfl rfl ko (wst2 _ _ _ _) ⟨rfl,rfl,rfl,rfl,rfl⟩ ?_;intro σ3 h3 X3;generalize hloop:(x.2.at x.1.holds).parent=loop;have ⟨b1,b2⟩:=Zy h3.mm.sd.ok h3.mm.sd.ws loop;have hfw:(x.2.free x.1.holds).ws=x.2.ws:=by unfold Cs.free;split<;>rfl
 push_cast -implicitDefEqProofs;refine Q4 h3.Words_a ?_;push_cast -implicitDefEqProofs[hloop];refine Q4 h3.Plan_a ?_;push_cast -implicitDefEqProofs[hloop];refine Q5 (Qr h3.mm.sd.ok _) ?_;push_cast -implicitDefEqProofs[aInt,hloop];refine Q0 (Z25 h3.mm.words b1 ka) ?_;rintro a σ4 ⟨rfl,hs4⟩;obtain ⟨h4,X4⟩:=h3.setW (ws:=(joinLeave (x.2.free x.1.holds).ws (q.frame loop)).2) (Z81 _ _ _);simp only at hs4;rw[←hs4] at h4 X4;clear hs4;have hw4:=h4.wk;unfold dropF;simp only[hloop]
 cases c1:x.1.eHeld with
 | true=>
  cases c2:x.1.eBreaks with
  | true=>simp only[and_self,if_true];push_cast -implicitDefEqProofs[aBool,hw4,c1,c2];refine Qf h4 rfl rfl ko (wst7 _ _ _ _) ⟨rfl,rfl,rfl,rfl,rfl⟩ ?_;intro σ5 h5 X5;push_cast -implicitDefEqProofs;refine Qf h5 rfl rfl ko (wst1 _ _ _ _) ⟨rfl,rfl,rfl,rfl,rfl⟩ ?_;intro σ6 h6 X6;push_cast -implicitDefEqProofs;exact ⟨_,by simpa only[c1,c2] using h6⟩
  | false=>simp only[Bool.false_eq_true,and_false,if_false,if_true];push_cast -implicitDefEqProofs[aBool,hw4,c1,c2];refine Q7 h4 (Y03 h4.re loop) ?_;intro a pl5 σ5 h5 X5;push_cast -implicitDefEqProofs;exact ⟨_,by simpa only[c1,c2] using h5⟩
 | false=>
  simp only[Bool.false_eq_true,false_and,if_false]
  cases c3:(joinLeave (x.2.free x.1.holds).ws (q.frame loop)).1 with
  | true=>
   have c3':(joinLeave x.2.ws (q.frame loop)).1=true:=by rw[←hfw];exact c3
   simp only[c3',if_true];push_cast -implicitDefEqProofs[aBool,hw4,c1];refine Qf h4 rfl rfl ko (wst2 _ _ _ _) ⟨rfl,rfl,rfl,rfl,rfl⟩ ?_;intro σ5 h5 X5;push_cast -implicitDefEqProofs;refine Qf h5 rfl rfl ko (wst1 _ _ _ _) ⟨rfl,rfl,rfl,rfl,rfl⟩ ?_;intro σ6 h6 X6;push_cast -implicitDefEqProofs;exact ⟨_,by simpa only[c1] using h6⟩
  | false=>
   have c3':(joinLeave x.2.ws (q.frame loop)).1=false:=by rw[←hfw];exact c3
   simp only[c3',Bool.false_eq_true,if_false];push_cast -implicitDefEqProofs[aBool,hw4,c1];refine Q7 h4 (w_next_a h4.re loop) ?_;intro a pl5 σ5 h5 X5;push_cast -implicitDefEqProofs;exact ⟨_,by simpa only[c1] using h5⟩
theorem w_complete_a (h:WM q L k jw jc pl0 σ0 pl σ x) (hb:x.2.back.length≤1000000000) (hb2:x.2.log.length≤1000000000):FnG Tryz.prog 183 [.ref jw 0 0,.ref jc 0 0] σ fun _ σ'=>∃pl',WM q L k jw jc pl0 σ0 pl' σ' (completeF x):=by
 refine Q3 Q31.2 mixed rfl ?_;simp only[Q31,qH];push_cast -implicitDefEqProofs;refine Q0 h.frame_a ?_;rintro a σ1 ⟨⟨i,off,rfl,hf⟩,h1,X1⟩;obtain ⟨cs,hcs,_,_,g19,_⟩:=hf.get;push_cast -implicitDefEqProofs[hcs,g19];refine Qm ?_;have hs:∀A f,A.length=19→setAtA A 0 (aFm f)=aFm f:=fun A f hA=>Q30 hA;push_cast -implicitDefEqProofs;refine Qd (Q16 _) (X50 _) (Qe _ _) ke ?_;rw[hs _ _ ke,Qu];have h2:=h1.app [Res.obj 0 (aFm (x.2.at x.1.holds))];have l2:=h1.lc (Res.obj 0 (aFm (x.2.at x.1.holds)));generalize hj:σ1.length=j at l2;generalize σ1++[Res.obj 0 (aFm (x.2.at x.1.holds))]=σ2 at h2 l2;have hl2:=l2.1;have hb4:fillA [AV.v (.int .i64 0),AV.v (.int .i64 0),AV.v (.int .i64 0),AV.v (.int .i64 0)] [(0,1),(1,1),(2,1)] [.v (.int .i64 5),.v (.int .i64 (x.2.at x.1.holds).serial),.v (.int .i64 (x.2.at x.1.holds).started)]=some (aVt ⟨5,(x.2.at x.1.holds).serial,(x.2.at x.1.holds).started,0⟩):=by simp[fillA,AV.cells,Value.cells,setAtA,aVt]
 push_cast -implicitDefEqProofs[hl2,hb4];refine Q4 h2.Log_a ?_;push_cast -implicitDefEqProofs[hl2,hb4];refine Q7 h2 (h2.re.Note_a hb2 _) ?_;intro a pl3 σ3 h3 X3;have l3:=l2.ext X3;have hl3:=l3.1;push_cast -implicitDefEqProofs[hl3];refine Q0 (h3.re.at_a (x.2.at x.1.holds).parent) ?_;rintro a σ4 ⟨⟨i4,off4,rfl,hf4⟩,h4,X4⟩;have l4:=l3.ext X4;have hl4:=l4.1;push_cast -implicitDefEqProofs[hl4];refine XM h4 hf4 (Y23 h1.mm x.1.holds) ?_;intro σ5 h5r hf5;have l5:=l3.ext h5r.ex;have h5:=h3.tr h5r;have hl5:=l5.1;have hw5:=h5.wk;push_cast -implicitDefEqProofs[hl5,hw5];refine Q4 h5.Frames_a ?_;push_cast -implicitDefEqProofs[hl5,hw5];refine Q7 h5 (h5.re.Free_a (by unfold Cs.setFr;split<;>exact hb) x.1.holds) ?_;intro a pl6 σ6 h6 X6;have l6:=l5.ext X6;have hl6:=l6.1;push_cast -implicitDefEqProofs[hl6];refine Q7 h6 (Z41 h6.re _) ?_;intro a pl7 σ7 h7 X7;push_cast -implicitDefEqProofs;exact ⟨_,h7⟩
end
section
variable {q:Pm} {L:List Wk} {k jw jc:Nat} {pl0 pl:Pl} {σ0 σ:Kx.St} {x:WC}
def Cs.Fresh (s:Cs):Prop:=s.back.Nodup∧(∀x∈s.back,0≤x∧s.held.getD x.toNat false=false)∧(0≤s.fresh∧s.fresh≤1000000)∧∀i:Nat,s.fresh < i→s.held.getD i false=false
theorem fresh_next {s:Cs} (hf:s.Fresh) {id:Int} {b:List Int} {f:Int} (e:nextF2 s.held s.back s.fresh=some (id,b,f)):0≤id∧s.held.getD id.toNat false=false:=by
 obtain ⟨h1,h2,⟨h3,h4⟩,h5⟩:=hf;unfold nextF2 at e;split at e
 ·rename_i x hx;simp only[Option.some.injEq,Prod.mk.injEq] at e;obtain ⟨rfl,_,_⟩:=e;exact h2 x (List.mem_of_getLast? hx)
 ·have ew:w64 (s.fresh+1)=s.fresh+1:=Q22 ka ka;rw[ew] at e;split at e
  ·cases e
  ·simp only[Option.some.injEq,Prod.mk.injEq] at e;obtain ⟨rfl,_,_⟩:=e;exact ⟨by omega,h5 _ ka⟩
theorem Y06 {s s':Cs} {f:Fm} {id:Int} (M:MM q pl σ L s) (hF:s.Fresh) (e:makeF q s f=(some id,s')) {j:Int} (hj:s.isHeld j=true):s'.isHeld j=true∧s'.fr[j.toNat]?=s.fr[j.toNat]?:=by
 unfold makeF at e
 cases e1:s.make q f with
 | none=>rw[e1] at e;simp at e
 | some y=>
  obtain ⟨i,s2⟩:=y;rw[e1] at e;simp only[Prod.mk.injEq,Option.some.injEq] at e;obtain ⟨rfl,rfl⟩:=e;unfold Cs.make at e1;rw[take_eq] at e1
  cases e2:takeF2 s.held s.back s.fresh s.peak with
  | none=>rw[e2] at e1;simp at e1
  | some z=>
   obtain ⟨i3,l3,b3,f3,p3⟩:=z;rw[e2] at e1;simp only[Option.map_some,Option.some.injEq,Prod.mk.injEq] at e1;obtain ⟨rfl,rfl⟩:=e1;obtain ⟨_,_,_,rfl⟩:=M.took e2
   have hji:j.toNat≠i3.toNat:=by
    unfold takeF2 at e2
    cases e3:nextF2 s.held s.back s.fresh with
    | none=>rw[e3] at e2;cases e2
    | some z=>obtain ⟨i4,b4,f4⟩:=z;rw[e3] at e2;simp only[Option.some.injEq,Prod.mk.injEq] at e2;obtain ⟨rfl,_⟩:=e2;have h1:=(fresh_next hF e3).2;have h2:=(Y88 (Q32 ▸ hj)).2.2;intro h;rw[←h,List.getD_eq_getElem?_getD,h2] at h1;cases h1
   refine ⟨?_,List.getElem?_set_ne (Ne.symm hji)⟩;rw[Q32] at hj ⊢;unfold heldL at hj ⊢;simp only[List.length_set] at hj ⊢;rw[Bool.and_eq_true] at hj ⊢;refine ⟨hj.1,?_⟩;rw[List.getD_eq_getElem?_getD,List.getElem?_set_ne (Ne.symm hji),←List.getD_eq_getElem?_getD];exact hj.2
theorem WM.loc (h:WM q L k jw jc pl0 σ0 pl σ x) {i:Nat} (hi:∀ro,pl.p ro≠i) (hn:σ0.length≤i) (r:Res):WM q L k jw jc pl0 σ0 pl (σ.set i r) x:=by
 have hm:=h.mm;refine ⟨⟨fun ro r er=>?_,hm.inj,hm.sd,fun ro=>by have:=hm.lt ro;simpa using this⟩,h.kl,h.ew,h.ec,by simpa using h.ex.len,fun j hj hp=>?_,h.ex.new,h.ex.fix⟩
 ·rw[List.getElem?_set_ne (hi ro).symm];exact hm.at_ ro r er
 ·rw[List.getElem?_set_ne ka];exact h.ex.keep j hj hp
theorem wpa_stg (h:WM q L k jw jc pl0 σ0 pl σ x) {pl1:Pl} {σ1:Kx.St} {x1:WC} {P:Program} {K:AV→Kx.St→Prop} {id:Int} {f f':Fm} {i off j:Nat} {a:AV} (hf:FP σ0.length pl1 σ1 x1.2 id f i off) (X:Ext pl1 pl σ1 σ)
  (hh:x1.2.isHeld id=true→x.2.isHeld id=true∧x.2.fr[id.toNat]?=x1.2.fr[id.toNat]?) (hr:f'.regs.length=8) (ha:a.cells=[a]) (h1:a.one=true) (hj:j < 19) (hs:(aFm f).set j a=aFm f')
  (hk:∀σ',WM q L k jw jc pl0 σ0 pl σ' (x.1,x.2.setIf (x1.2.isHeld id) id f')→(∃cs t,σ'[i]?=some (.obj 0 cs)∧cs.drop off=aFm f'++t∧off+19≤cs.length)→(x1.2.isHeld id=true→FP σ0.length pl σ' (x.2.setFr id f') id f' i off)→(x1.2.isHeld id=false→(∀ro,pl.p ro≠i)∧σ0.length≤i)→act (K (.v undef) σ')):
  act (EF.awp P (.st 1) [.ref i 0 (off+j),a] σ K):=by
 cases c:x1.2.isHeld id with
 | true=>
  obtain ⟨h2,h3⟩:=hh c
  have hF:FP σ0.length pl σ x.2 id f i off:=by
   rcases hf.wh with ⟨w1,w2,w3,w4⟩|⟨w1,_⟩
   ·have M4:x.2.fr[id.toNat]?=some f:=h3.trans w4;refine ⟨⟨_,_,by rw[w2,←X.fix _ rfl];exact h.mm.fl,by rw[w3];exact QQ Q16 M4,?_⟩,.inl ⟨h2,by rw[w2,X.fix _ rfl],w3,M4⟩⟩;rw[fr_len];have:=Qh M4;omega
   ·rw[c] at w1;cases w1
  refine Q43 h hF hr ha h1 hj hs ?_;intro σ' h' hF';exact hk σ' (by rw[c];exact h') hF'.cs (fun _=>hF') (fun e=>by rw[c] at e;cases e)
 | false=>
  rcases hf.wh with ⟨w1,_⟩|⟨_,w2,w3⟩
  ·rw[c] at w1;cases w1
  ·obtain ⟨cs,t,e1,e2,e3⟩:=hf.cs;have e1':σ[i]?=some (.obj 0 cs):=by rw[X.keep i (Qh e1) w2];exact e1
   have hi:∀ro,pl.p ro≠i:=fun ro=>by
    rcases X.new ro with e|e
    ·rw[e];exact w2 ro
    ·have:=Qh e1;omega
   refine Q9 ha h1 e1' ka ?_;refine hk _ (by rw[c];exact h.loc hi w3 _) ⟨_,t,Qb e1',?_,by simpa using e3⟩ (fun e=>by rw[c] at e;cases e) (fun _=>⟨hi,w3⟩);have hsp:cs=cs.take off++aFm f++t:=by rw[List.append_assoc,←e2,List.take_append_drop]
   rw[fm_set1 hj hs (cs.take off) t oJ hsp,List.append_assoc,List.drop_append_of_le_length oJ,List.drop_of_length_le oJ,List.nil_append]
theorem w_start_a (h:WM q L k jw jc pl0 σ0 pl σ x) (hb:x.2.back.length≤1000000000) (hF:x.2.Fresh):FnG Tryz.prog 186 [.ref jw 0 0,.ref jc 0 0] σ fun _ σ'=>∃pl',WM q L k jw jc pl0 σ0 pl' σ' (startF q x):=by
 refine Q3 Q85.2 mixed rfl ?_;simp only[Q85,qH];push_cast -implicitDefEqProofs;refine Q0 h.frame_a ?_;rintro a σ1 ⟨⟨i,off,rfl,hf⟩,h1,X1⟩;obtain ⟨cs,hcs,g,_,g19,_⟩:=hf.get;have hw1:=h1.wk;push_cast -implicitDefEqProofs[hcs,g19,hw1];refine Q4 (frame_Iter_a σ1 (x.2.at x.1.holds) x.1.holds) ?_;push_cast -implicitDefEqProofs;refine Q0 (Y92 h1.re hb _ (Y23 h1.mm x.1.holds)) ?_;rintro a σ2 ⟨pl2,h2',X2,ha⟩;have h2:=h1.tr h2'
 cases e:makeF q x.2 ⟨2,(x.2.at x.1.holds).fn,0,(x.2.at x.1.holds).regs,x.1.holds,false,false,(x.2.at x.1.holds).started,0,0,0,0⟩ with
 | mk o s'=>
  rw[e] at ha h2;unfold startF;simp only[e]
  cases o with
  | none=>simp only at ha;subst ha;push_cast -implicitDefEqProofs[aInt,aBool];exact ⟨_,h2⟩
  | some id=>
   simp only at ha;subst ha;have hm:=fun hh=>Y06 h1.mm hF e (j:=x.1.holds) hh;have g17:σ2[i]?=some (.obj 0 cs)∨True:=.inr trivial
   obtain ⟨cs2,hcs2,k17⟩:∃cs2,σ2[i]?=some (.obj 0 cs2)∧cs2[off+17]?=some (.v (.int .i64 (x.2.at x.1.holds).started)):=by
    rcases hf.wh with ⟨w1,w2,w3,w4⟩|⟨w1,w2,w3⟩
    ·obtain ⟨m1,m2⟩:=hm w1;have M4:=m2.trans w4;refine ⟨_,by rw[w2,←X2.fix _ rfl];exact h2.mm.fl,?_⟩;rw[←List.getElem?_drop,w3,QQ Q16 M4,List.getElem?_append_left (by rw[Q16];decide)];rfl
    ·refine ⟨cs,by rw[X2.keep i (Qh hcs) w2];exact hcs,g 17 _ rfl⟩
   push_cast -implicitDefEqProofs[aInt,aBool,hcs2,k17];refine wpa_stg h2 hf X2 hm (f':={ x.2.at x.1.holds with started:=w64 ((x.2.at x.1.holds).started+1) }) (Y23 h1.mm x.1.holds) rfl rfl ko rfl ?_;intro σ3 h3 _ _ _;push_cast -implicitDefEqProofs;refine Qf h3 rfl rfl ko (wst7 _ _ _ _) ⟨rfl,rfl,rfl,rfl,rfl⟩ ?_;intro σ4 h4 X4;push_cast -implicitDefEqProofs;refine Qf h4 rfl rfl ko (wst1 _ _ _ _) ⟨rfl,rfl,rfl,rfl,rfl⟩ ?_;intro σ5 h5 X5;push_cast -implicitDefEqProofs;exact ⟨_,h5⟩
end
section
variable {q:Pm} {L:List Wk} {k jw jc:Nat} {pl0 pl:Pl} {σ0 σ:Kx.St} {x:WC}
theorem w_ahead_a (h:WM q L k jw jc pl0 σ0 pl σ x) {id:Int} {f:Fm} {i off:Nat} (hf:FP σ0.length pl σ x.2 id f i off):FnG Tryz.prog 249 [.ref jc 0 0,.ref i 0 off] σ fun a σ'=>a=aInt (w64 (f.started - q.T))∧σ'=σ:=by refine Q3 X00.2 mixed rfl ?_;simp only[X00,qH];obtain ⟨cs,hcs,g,_,_,_⟩:=hf.get;have g17:=g 17 _ rfl;have hfl:PF.av (.fld 1 none) [.agg (aPr q)]=some (.v (.int .i64 q.T)):=rfl;push_cast -implicitDefEqProofs[hcs,g17];refine Q4 h.Params_a ?_;push_cast -implicitDefEqProofs[hcs,g17,hfl,aInt];exact trivial
theorem w_loop_a (h:WM q L k jw jc pl0 σ0 pl σ x) (hb:x.2.back.length≤1000000000) (hF:x.2.Fresh):FnG Tryz.prog 184 [.ref jw 0 0,.ref jc 0 0] σ fun _ σ'=>∃pl',WM q L k jw jc pl0 σ0 pl' σ' (loopF q x):=by
 refine Q3 Zb.2 mixed rfl ?_;simp only[Zb,qH];push_cast -implicitDefEqProofs;refine Q0 h.frame_a ?_;rintro a σ1 ⟨⟨i,off,rfl,hf⟩,h1,X1⟩;push_cast -implicitDefEqProofs;refine Q4 (w_ahead_a h1 hf) ?_;have hw1:=h1.wk;push_cast -implicitDefEqProofs[aInt,hw1];refine Q0 (Q21 h1 x.1.holds) ?_;rintro a σ2 ⟨rfl,h2,X2⟩;push_cast -implicitDefEqProofs;refine Qm ?_;push_cast -implicitDefEqProofs;have hs6:∀r,setAtA [AV.v (.int .i64 0),AV.v (.int .i64 0),AV.v (.int .i64 0),AV.v (.int .i64 0),AV.v (.int .i64 0),AV.v (.int .i64 0)] 0 (aRr q r)=aRr q r:=fun r=>rfl;refine Qd (cs:=[AV.v (.int .i64 0),.v (.int .i64 0),.v (.int .i64 0),.v (.int .i64 0),.v (.int .i64 0),.v (.int .i64 0)]) rfl rfl (Qe _ _) ke ?_;rw[hs6,Qu];have h3:=h2.app [Res.obj 0 (aRr q (ringF x.2 x.1.holds))];have l3:=h2.lc (Res.obj 0 (aRr q (ringF x.2 x.1.holds)));generalize hj:σ2.length=j at l3;generalize σ2++[Res.obj 0 (aRr q (ringF x.2 x.1.holds))]=σ3 at h3 l3;have hl3:=l3.1;unfold loopF;simp only;by_cases c1:w64 ((x.2.at x.1.holds).started - q.T) < 0
 ·simp only[c1,if_true];push_cast -implicitDefEqProofs[c1];refine Q7 h3 (w_start_a h3.re hb hF) ?_;intro a pl4 σ4 h4 X4;push_cast -implicitDefEqProofs;exact ⟨_,h4⟩
 ·simp only[c1,if_false];push_cast -implicitDefEqProofs[c1,hl3];refine Q4 h3.Words_a ?_;push_cast -implicitDefEqProofs[hl3];refine Q4 (X89 h3.mm.sd.ok h3.mm.words h3.mm.sd.ws _ _) ?_
  cases c2:endedR q (ringF x.2 x.1.holds) x.2.ws (w64 ((x.2.at x.1.holds).started - q.T)) with
  | true=>simp only[if_true];push_cast -implicitDefEqProofs[aBool];refine Qf h3 rfl rfl ko (wst1 _ _ _ _) ⟨rfl,rfl,rfl,rfl,rfl⟩ ?_;intro σ4 h4 X4;push_cast -implicitDefEqProofs;exact ⟨_,h4⟩
  | false=>simp only[Bool.false_eq_true,if_false];push_cast -implicitDefEqProofs[aBool];refine Q4 h3.Stats_a ?_;have hc:=h3.c;push_cast -implicitDefEqProofs[hc];refine X52 h3 rfl rfl ko (cos17 _ _ _ _) rfl ?_;intro σ4 h4 X4;have l4:=l3.ext X4;have hl4:=l4.1;push_cast -implicitDefEqProofs[hl4];refine Q4 (Y1 q σ4 _ _) ?_;push_cast -implicitDefEqProofs;refine wpa_newnap h4 ?_;intro pl5 σ5 h5 X5;have hw5:=h5.wk;push_cast -implicitDefEqProofs[hw5];refine Qf h5 rfl rfl ko (wst7 _ _ _ _) ⟨rfl,rfl,rfl,rfl,rfl⟩ ?_;intro σ6 h6 X6;push_cast -implicitDefEqProofs;refine Qf h6 rfl rfl ko (wst2 _ _ _ _) ⟨rfl,rfl,rfl,rfl,rfl⟩ ?_;intro σ7 h7 X7;push_cast -implicitDefEqProofs;refine Qf h7 rfl rfl ko (wst1 _ _ _ _) ⟨rfl,rfl,rfl,rfl,rfl⟩ ?_;intro σ8 h8 X8;push_cast -implicitDefEqProofs;exact ⟨_,h8⟩
theorem w_count_a (h:WM q L k jw jc pl0 σ0 pl σ x):FnG Tryz.prog 187 [.ref jw 0 0,.ref jc 0 0] σ fun _ σ'=>∃pl',WM q L k jw jc pl0 σ0 pl' σ' (countF q x):=by refine Q3 Q86.2 mixed rfl ?_;simp only[Q86,qH];have hw:=h.wk;push_cast -implicitDefEqProofs[hw];refine Q0 (Q21 h x.1.holds) ?_;rintro a σ1 ⟨rfl,h1,X1⟩;have hw1:=h1.wk;push_cast -implicitDefEqProofs[hw1];refine Q4 h1.Words_a ?_;push_cast -implicitDefEqProofs[hw1];refine Q0 (h1.at_a x.1.other) ?_;rintro a σ2 ⟨⟨i,off,rfl,hf⟩,h2,X2⟩;obtain ⟨cs,hcs,g,_,_,_⟩:=hf.get;have g14:=g 14 _ rfl;have hw2:=h2.wk;push_cast -implicitDefEqProofs[hcs,g14,hw2];refine Q0 (YR h2.mm.sd.ok h2.mm.words h2.mm.sd.ws _ _ _) ?_;rintro a σ3 hs3;obtain ⟨h3,X3⟩:=h2.setW (Qk _ _ _);rw[←hs3] at h3 X3;clear hs3;push_cast -implicitDefEqProofs;refine Qf h3 rfl rfl ko (wst1 _ _ _ _) ⟨rfl,rfl,rfl,rfl,rfl⟩ ?_;intro σ4 h4 X4;push_cast -implicitDefEqProofs;exact ⟨_,h4⟩
theorem w_name_a (h:WM q L k jw jc pl0 σ0 pl σ x):FnG Tryz.prog 188 [.ref jw 0 0,.ref jc 0 0] σ fun _ σ'=>∃pl',WM q L k jw jc pl0 σ0 pl' σ' (nameF2 q x):=by refine Q3 Zd.2 mixed rfl ?_;simp only[Zd,qH];have hw:=h.wk;push_cast -implicitDefEqProofs[hw];refine Q0 (Q21 h x.1.holds) ?_;rintro a σ1 ⟨rfl,h1,X1⟩;have hw1:=h1.wk;push_cast -implicitDefEqProofs[hw1];refine Q4 h1.Words_a ?_;push_cast -implicitDefEqProofs[hw1];refine Q0 (h1.at_a x.1.other) ?_;rintro a σ2 ⟨⟨i,off,rfl,hf⟩,h2,X2⟩;obtain ⟨cs,hcs,g,_,_,_⟩:=hf.get;have g14:=g 14 _ rfl;have hw2:=h2.wk;push_cast -implicitDefEqProofs[hcs,g14,hw2];refine Q0 (ring_Link_a h2.mm.sd.ok h2.mm.words h2.mm.sd.ws _ _ _) ?_;rintro a σ3 hs3;obtain ⟨h3,X3⟩:=h2.setW (Qk _ _ _);rw[←hs3] at h3 X3;clear hs3;push_cast -implicitDefEqProofs;refine Qf h3 rfl rfl ko (wst1 _ _ _ _) ⟨rfl,rfl,rfl,rfl,rfl⟩ ?_;intro σ4 h4 X4;push_cast -implicitDefEqProofs;exact ⟨_,h4⟩
theorem w_joins_a (h:WM q L k jw jc pl0 σ0 pl σ x) (hb:x.2.log.length+1≤1000000000):FnG Tryz.prog 189 [.ref jw 0 0,.ref jc 0 0] σ fun _ σ'=>∃pl',WM q L k jw jc pl0 σ0 pl' σ' (joinsF q x):=by refine Q3 Q87.2 mixed rfl ?_;simp only[Q87,qH];have hw:=h.wk;have ⟨b1,b2⟩:=Zy h.mm.sd.ok h.mm.sd.ws x.1.holds;push_cast -implicitDefEqProofs[hw];refine Q4 h.Words_a ?_;push_cast -implicitDefEqProofs[hw];refine Q4 h.Plan_a ?_;push_cast -implicitDefEqProofs[hw];refine Q5 (Qr h.mm.sd.ok _) ?_;push_cast -implicitDefEqProofs[aInt,hw];refine Q0 (X87 h.mm.words b1 ka) ?_;rintro a σ1 hs1;obtain ⟨h1,X1⟩:=h.setW (Z81 _ _ _);rw[←hs1] at h1 X1;clear hs1;have hw1:=h1.wk;push_cast -implicitDefEqProofs[hw1];refine Q7 h1 (Z41 h1.re _) ?_;intro a pl2 σ2 h2 X2;push_cast -implicitDefEqProofs;refine Q7 h2 (X33 h2.re (by simp only[Cs.setW];omega) 1) ?_;intro a pl3 σ3 h3 X3;push_cast -implicitDefEqProofs;refine Q7 h3 (X33 h3.re (by simp only[noteF,Cs.note,Cs.setW,List.length_append,List.length_singleton];omega) 2) ?_;intro a pl4 σ4 h4 X4;push_cast -implicitDefEqProofs;exact ⟨_,h4⟩
end
section
variable {q:Pm} {L:List Wk} {k jw jc:Nat} {pl0 pl:Pl} {σ0 σ:Kx.St} {x:WC} {f:Fm} {i off:Nat}
theorem wpa_stg2 (h:WM q L k jw jc pl0 σ0 pl σ x) {b:Bool} {id:Int} {P:Program} {K:AV→Kx.St→Prop} {f f':Fm} {j:Nat} {a:AV}
  (hc:∃cs t,σ[i]?=some (.obj 0 cs)∧cs.drop off=aFm f++t∧off+19≤cs.length) (hT:b=true→∃s0:Cs,x.2=s0.setFr id f∧FP σ0.length pl σ (s0.setFr id f) id f i off) (hFa:b=false→(∀ro,pl.p ro≠i)∧σ0.length≤i)
  (hr:f'.regs.length=8) (ha:a.cells=[a]) (h1:a.one=true) (hj:j < 19) (hs:(aFm f).set j a=aFm f')
  (hk:∀σ',WM q L k jw jc pl0 σ0 pl σ' (x.1,x.2.setIf b id f')→act (K (.v undef) σ')):act (EF.awp P (.st 1) [.ref i 0 (off+j),a] σ K):=by
 cases b with
 | true=>obtain ⟨s0,e,hF⟩:=hT rfl;rw[←e] at hF;exact Q43 h hF hr ha h1 hj hs fun σ' h' _=>hk σ' h'
 | false=>obtain ⟨hi,hn⟩:=hFa rfl;obtain ⟨cs,t,e1,e2,e3⟩:=hc;refine Q9 ha h1 e1 ka ?_;exact hk _ (h.loc hi hn _)
theorem setFr2 (s:Cs) (id:Int) (f g:Fm):(s.setFr id f).setFr id g=s.setFr id g:=by
 unfold Cs.setFr;by_cases h:s.isHeld id=true
 ·have h2:Cs.isHeld { s with fr:=s.fr.set id.toNat f } id=true:=h;simp only[h,if_true,h2,List.set_set]
 ·have h2:¬Cs.isHeld s id=true:=h;simp only[h2,if_false,Bool.false_eq_true]
theorem setIf2 (s:Cs) (b:Bool) (id:Int) (f g:Fm):(s.setIf b id f).setIf b id g=s.setIf b id g:=by
 cases b with
 | true=>exact setFr2 s id f g
 | false=>rfl
theorem w_fork_a (h:WM q L k jw jc pl0 σ0 pl σ x) (hb:x.2.back.length≤1000000000) (hF:x.2.Fresh) (hf:FP σ0.length pl σ x.2 x.1.holds f i off) (hr:f.regs.length=8) (pc fn:Int):
  FnG Tryz.prog 228 [.ref jw 0 0,.ref jc 0 0,.ref i 0 off,.v (.int .i64 pc),.v (.int .i64 fn)] σ fun _ σ'=>∃pl',WM q L k jw jc pl0 σ0 pl' σ' (forkF q x f pc fn):=by
 refine Q3 Ze.2 mixed rfl ?_;simp only[Ze,qH];obtain ⟨cs,hcs,g,_,g19,_⟩:=hf.get;have hw:=h.wk;push_cast -implicitDefEqProofs[hcs,g19,hw];refine Q4 (Y89 σ f x.1.holds fn) ?_;push_cast -implicitDefEqProofs;refine Q0 (Y92 h.re hb _ hr) ?_;rintro a σ2 ⟨pl2,h2',X2,ha⟩;have h2:=h.tr h2'
 cases e:makeF q x.2 ⟨1,fn,0,f.regs,x.1.holds,false,false,0,0,0,0,0⟩ with
 | mk o s'=>
  rw[e] at ha h2;unfold forkF;simp only[e]
  cases o with
  | none=>simp only at ha;subst ha;push_cast -implicitDefEqProofs[aInt,aBool];exact ⟨_,h2⟩
  | some id=>simp only at ha;subst ha;have hm:=fun hh=>Y06 h.mm hF e (j:=x.1.holds) hh;push_cast -implicitDefEqProofs[aInt,aBool];refine wpa_stg h2 hf X2 hm (f':={ f with pc:=pc }) hr rfl rfl ko rfl ?_;intro σ3 h3 c3 t3 f3;push_cast -implicitDefEqProofs;refine wpa_stg2 h3 (b:=x.2.isHeld x.1.holds) (id:=x.1.holds) c3 (fun hh=>⟨s',by simp only[Cs.setIf,hh,if_true],t3 hh⟩) f3 (f':={ f with pc:=pc,dirty:=true }) hr rfl rfl ko rfl ?_;intro σ4 h4;simp only[setIf2] at h4;push_cast -implicitDefEqProofs;refine Qf h4 rfl rfl ko (wst7 _ _ _ _) ⟨rfl,rfl,rfl,rfl,rfl⟩ ?_;intro σ5 h5 X5;push_cast -implicitDefEqProofs;refine Qf h5 rfl rfl ko (wst1 _ _ _ _) ⟨rfl,rfl,rfl,rfl,rfl⟩ ?_;intro σ6 h6 X6;push_cast -implicitDefEqProofs;exact ⟨_,h6⟩
theorem w_pipe_a (h:WM q L k jw jc pl0 σ0 pl σ x) (hb:x.2.back.length≤1000000000) (hF:x.2.Fresh) (hf:FP σ0.length pl σ x.2 x.1.holds f i off) (hr:f.regs.length=8) (pc fn:Int):
  FnG Tryz.prog 229 [.ref jw 0 0,.ref jc 0 0,.ref i 0 off,.v (.int .i64 pc),.v (.int .i64 fn)] σ fun _ σ'=>∃pl',WM q L k jw jc pl0 σ0 pl' σ' (pipeF q x f pc fn):=by
 refine Q3 Zf.2 mixed rfl ?_;simp only[Zf,qH];obtain ⟨cs,hcs,g,_,g19,_⟩:=hf.get;have hw:=h.wk;push_cast -implicitDefEqProofs[hcs,g19,hw];refine Q0 h.Serial_a ?_;rintro a σ1 ⟨rfl,h1,X1⟩;have hf1:=hf.ext X1 h1.mm rfl rfl;obtain ⟨cs1,hcs1,_,_,k19,_⟩:=hf1.get;have hw1:=h1.wk;push_cast -implicitDefEqProofs[hcs1,k19,hw1,aInt];refine Q4 (frame_Loop_a σ1 f x.1.holds fn (w64 (x.2.serial+1))) ?_;push_cast -implicitDefEqProofs;refine Q0 (Y92 h1.re hb _ hr) ?_;rintro a σ2 ⟨pl2,h2',X2,ha⟩;have h2:=h1.tr h2'
 cases e:makeF q { x.2 with serial:=w64 (x.2.serial+1) } ⟨3,fn,0,f.regs,x.1.holds,false,false,0,0,0,0,w64 (x.2.serial+1)⟩ with
 | mk o s'=>
  rw[e] at ha h2;unfold pipeF;simp only[e]
  cases o with
  | none=>simp only at ha;subst ha;push_cast -implicitDefEqProofs[aInt,aBool];exact ⟨_,h2⟩
  | some id=>simp only at ha;subst ha;have hm:=fun hh=>Y06 h1.mm hF e (j:=x.1.holds) hh;push_cast -implicitDefEqProofs[aInt,aBool];refine wpa_stg h2 hf1 X2 hm (f':={ f with pc:=pc }) hr rfl rfl ko rfl ?_;intro σ3 h3 c3 t3 f3;push_cast -implicitDefEqProofs;refine Q7 h3 (Y03 h3.re id) ?_;intro a pl4 σ4 h4 X4;push_cast -implicitDefEqProofs;exact ⟨_,h4⟩
theorem stage_Go_b (a b:Int):FnP Tryz.prog 263 [.v (.int .i64 a),.v (.int .i64 b)] fun r=>r=aInt (goE a b):=stage_Go_a a b
theorem wpa_par (h:WM q L k jw jc pl0 σ0 pl σ x) {rs:List Int} (hr:rs.length=8) {P:Program} {K:AV→Kx.St→Prop} {id:Int} {f2:Fm} {i2 off2:Nat} (hf:FP σ0.length pl σ x.2 id f2 i2 off2)
  (hk:∀σ',WM q L k jw jc pl0 σ0 pl σ' (x.1,x.2.setFr id { f2 with regs:=rs })→act (K (.v undef) σ')):act (EF.awp P (.st 8) [.ref i2 0 (off2+3),.agg (aRg rs)] σ K):=
 XM h hf hr fun σ' h' _=>hk σ' h'
theorem w_goOn_a (h:WM q L k jw jc pl0 σ0 pl σ x) (hf:FP σ0.length pl σ x.2 x.1.holds f i off) (hr:f.regs.length=8) (pc:Int) (e:Ef):
  FnG Tryz.prog 230 [.ref jw 0 0,.ref jc 0 0,.ref i 0 off,.v (.int .i64 pc),.agg (aEf e)] σ fun _ σ'=>∃pl',WM q L k jw jc pl0 σ0 pl' σ' (goOnF x f pc e):=by
 refine Q3 Zg.2 mixed rfl ?_;simp only[Zg,qH];obtain ⟨cs,hcs,g,_,_,_⟩:=hf.get;have g0:=g 0 _ rfl;rw[Nat.add_zero] at g0;have g15:=g 15 _ rfl;obtain ⟨e0,e1,e2,e3⟩:=ef_i e;have hac:(AV.agg (aEf e)).cells=aEf e:=rfl;have hb:fillA [AV.v (.int .i64 0),AV.v (.bool false),AV.v (.bool false),AV.v (.int .i64 0)] [(0,1),(1,1),(2,1)] [.v (.int .i64 e.v),.v (.bool (decide (e.k=9))),.v (.bool true)]=some [.v (.int .i64 e.v),.v (.bool (decide (e.k=9))),.v (.bool true),.v (.int .i64 0)]:=by simp[fillA,AV.cells,Value.cells,setAtA]
 push_cast -implicitDefEqProofs (disch:=omega);refine Q6 ?_;push_cast -implicitDefEqProofs (disch:=omega)[hac,hcs,g15,e2];refine Q5 (stage_Go_b _ _) ?_;by_cases c1:f.kind=2
 ·rw[c1] at g0;by_cases c2:goE f.stage e.v=0
  ·have eg:goOnF x f pc e=({ x.1 with gStage:=e.v,gWaits:=decide (e.k=9),gLooked:=true,gWhy:=0,state:=9 },if f.stage=0 then (x.2.setFr x.1.holds { f with pc:=pc }).setFr f.parent { (x.2.setFr x.1.holds { f with pc:=pc }).at f.parent with regs:=f.regs } else x.2.setFr x.1.holds { f with pc:=pc }):=by unfold goOnF;rw[if_neg (fun h=>h c1),if_neg (fun h=>h c2)]
   rw[eg];push_cast -implicitDefEqProofs (disch:=omega)[aInt,hcs,g0,c2,Nat.add_zero];refine Q43 h hf (f':={ f with pc:=pc }) hr rfl rfl ko rfl ?_;intro σ1 h1 hf1;push_cast -implicitDefEqProofs (disch:=omega)[e0,e2,hb];refine Qd rfl rfl h1.wk (by simp[X01]) ?_;rw[wst8g];obtain ⟨h2,X2⟩:=h1.st (w':={ x.1 with gStage:=e.v,gWaits:=decide (e.k=9),gLooked:=true,gWhy:=0 }) ⟨rfl,rfl,rfl,rfl,rfl⟩;simp only;generalize σ1.set jw (.obj 0 (aWk pl k { x.1 with gStage:=e.v,gWaits:=decide (e.k=9),gLooked:=true,gWhy:=0 }))=σ2 at h2 X2;push_cast -implicitDefEqProofs (disch:=omega);refine Qf h2 rfl rfl ko (wst1 _ _ _ _) ⟨rfl,rfl,rfl,rfl,rfl⟩ ?_;intro σ3 h3 X3;have hf3:=(hf1.ext X2 h2.mm rfl rfl).ext X3 h3.mm rfl rfl;obtain ⟨cs3,hcs3,g3,g38,_,_⟩:=hf3.get;have k15:=g3 15 _ rfl;have k11:=g3 11 _ rfl;by_cases c3:f.stage=0
   ·rw[if_pos c3];rw[c3] at k15;push_cast -implicitDefEqProofs (disch:=omega)[hcs3,k15,k11,g38];refine Q0 (h3.at_a f.parent) ?_;rintro a σ4 ⟨⟨i4,off4,rfl,hf4⟩,h4,X4⟩;have hf34:=hf3.ext X4 h4.mm rfl rfl;obtain ⟨cs4,hcs4,_,m8,_,_⟩:=hf34.get;push_cast -implicitDefEqProofs (disch:=omega)[hcs4,m8];refine wpa_par h4 hr hf4 ?_;intro σ5 h5;push_cast -implicitDefEqProofs (disch:=omega);exact ⟨_,h5⟩
   ·rw[if_neg c3];push_cast -implicitDefEqProofs (disch:=omega)[hcs3,k15,c3];exact ⟨_,h3⟩
  ·have eg:goOnF x f pc e=(x.1,x.2.stop 4 (goE f.stage e.v)):=by unfold goOnF;rw[if_neg (fun h=>h c1),if_pos c2]
   rw[eg];push_cast -implicitDefEqProofs (disch:=omega)[aInt,hcs,g0,c2,Nat.add_zero];refine Q7 h (h.re.Stop_a 4 (goE f.stage e.v)) ?_;intro a pl1 σ1 h1 X1;push_cast -implicitDefEqProofs (disch:=omega);exact ⟨_,h1⟩
 ·have eg:goOnF x f pc e=(x.1,x.2.stop 4 4):=if_pos c1;rw[eg];push_cast -implicitDefEqProofs (disch:=omega)[aInt,hcs,g0,c1,Nat.add_zero];refine Q7 h (h.re.Stop_a 4 4) ?_;intro a pl1 σ1 h1 X1;push_cast -implicitDefEqProofs (disch:=omega);exact ⟨_,h1⟩
end
end Go.Proofs.YtelibaobkcokdaaGreat.Mx
