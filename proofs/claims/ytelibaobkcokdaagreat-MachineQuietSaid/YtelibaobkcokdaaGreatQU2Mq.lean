/- The machine: a worker's steps: seeking, stealing, popping, pushing. -/
import Derived.Test.YtelibaobkcokdaaGreatQU2Mp
namespace Go.Proofs.YtelibaobkcokdaaGreat.Mx
set_option linter.unusedSectionVars false
set_option linter.unusedVariables false
set_option linter.unusedSimpArgs false
open Go Go.Kx Go.Proofs Go.Proofs.YtelibaobkcokdaaGreat
set_option maxRecDepth 8000
section
variable {q:Pm} {L:List Wk} {k jw jc:Nat} {pl0 pl:Pl} {σ0 σ:Kx.St} {x:WC}
theorem X31 {d:Dq} (hd:x.1.dq=some d):stepD q x=({ x.1 with dq:=some (dqNext q d x.2.ws).1 },x.2.setW (dqNext q d x.2.ws).2):=by simp[stepD,dqStep,hd]
theorem w_seek_a (h:WM q L k jw jc pl0 σ0 pl σ x) (victim:Int):FnG Tryz.prog 51 [.ref jw 0 0,.ref jc 0 0,.v (.int .i64 victim)] σ fun _ σ'=>∃pl',WM q L k jw jc pl0 σ0 pl' σ' (seekF q x victim):=by
 refine Q2 X40 mixed rfl ?_
 simp only[Z3]
 have hfl:PF.av (.fld 0 none) [.agg (aPr q)]=some (.v (.int .i64 q.W)):=rfl
 obtain ⟨⟨w1,w2⟩,_⟩:=h.mm.sd.ok
 have hw:=h.wk
 push_cast (maxSteps:=999999) -implicitDefEqProofs (disch:=omega)
 refine Q0 h.Params_a ?_
 rintro a σ' ⟨rfl,hs⟩
 rw[hs];clear hs
 have hr:=v_rem .i64 (w64 (max victim 0 % q.W+x.1.probed)) q.W (by omega)
 push_cast (maxSteps:=999999) -implicitDefEqProofs (disch:=omega)[hfl,hw,hr]
 refine Qd h rfl rfl (by decide) (wst4 _ _ _ _) ⟨rfl,rfl,rfl,rfl,rfl⟩ ?_
 intro σ1 h1 X1
 push_cast (maxSteps:=999999) -implicitDefEqProofs (disch:=omega)
 refine Q0 h1.Stats_a ?_
 rintro a σ' ⟨rfl,hs⟩
 rw[hs];clear hs
 have hc:=h1.c
 push_cast (maxSteps:=999999) -implicitDefEqProofs (disch:=omega)[hc]
 refine Y38 h1 rfl rfl (by decide) (cos14 _ _ _ _) rfl ?_
 intro σ2 h2 X2
 have hw2:=h2.wk
 by_cases c:(w64 (max victim 0 % q.W+x.1.probed)).tmod q.W=x.1.own
 ·have e:seekF q x victim=({ x.1 with probed:=w64 (x.1.probed+1) },{ x.2 with probes:=w64 (x.2.probes+1) }):=if_pos c
  rw[e]
  push_cast (maxSteps:=999999) -implicitDefEqProofs (disch:=omega)[hw2,c]
  exact ⟨_,h2⟩
 ·have e:seekF q x victim=stepD q ({ x.1 with probed:=w64 (x.1.probed+1),dq:=some (dqSteal ((w64 (max victim 0 % q.W+x.1.probed)).tmod q.W)),state:=1 },{ x.2 with probes:=w64 (x.2.probes+1) }):=if_neg c
  rw[e]
  push_cast (maxSteps:=999999) -implicitDefEqProofs (disch:=omega)[hw2,c]
  refine Q0 h2.Plan_a ?_
  rintro a σ' ⟨rfl,hs⟩
  rw[hs];clear hs
  push_cast (maxSteps:=999999) -implicitDefEqProofs (disch:=omega)
  refine Q0 (dq_Steal_a q σ2 _) ?_
  rintro a σ' ⟨rfl,rfl⟩
  push_cast (maxSteps:=999999) -implicitDefEqProofs (disch:=omega)
  refine J10 h2 (.inl rfl) ?_
  intro pl3 σ3 h3 X3
  push_cast (maxSteps:=999999) -implicitDefEqProofs (disch:=omega)
  refine Qd h3 rfl rfl (by decide) (wst1 _ _ _ _) ⟨rfl,rfl,rfl,rfl,rfl⟩ ?_
  intro σ4 h4 X4
  have hw4:=h4.wk
  have hdq:=QC (o:=some (dqSteal ((w64 (max victim 0 % q.W+x.1.probed)).tmod q.W))) (j:=pl3.p (.dq k)) rfl
  push_cast (maxSteps:=999999) -implicitDefEqProofs (disch:=omega)[hw4,hdq]
  refine Q0 h4.Words_a ?_
  rintro a σ' ⟨rfl,hs⟩
  rw[hs];clear hs
  push_cast (maxSteps:=999999) -implicitDefEqProofs (disch:=omega)[hw4,hdq]
  refine Q0 (h4.step_dq rfl) ?_
  rintro a σ5 ⟨rfl,h5,X5⟩
  push_cast (maxSteps:=999999) -implicitDefEqProofs (disch:=omega)
  rw[X31 rfl]
  exact ⟨_,h5⟩
theorem w_steal_a (h:WM q L k jw jc pl0 σ0 pl σ x) {d:Dq} (hd:x.1.dq=some d):FnG Tryz.prog 93 [.ref jw 0 0,.ref jc 0 0] σ fun _ σ'=>∃pl',WM q L k jw jc pl0 σ0 pl' σ' (stealF q x):=by
 refine Q2 X06 mixed rfl ?_
 simp only[Q77]
 have hw:=h.wk
 have hdq:=QC (j:=pl.p (.dq k)) hd
 push_cast (maxSteps:=999999) -implicitDefEqProofs (disch:=omega)[hw,hdq]
 refine Q0 h.Words_a ?_
 rintro a σ' ⟨rfl,hs⟩
 rw[hs];clear hs
 push_cast (maxSteps:=999999) -implicitDefEqProofs (disch:=omega)[hw,hdq]
 refine Q0 (h.step_dq hd) ?_
 rintro a σ1 ⟨rfl,h1,X1⟩
 unfold stealF
 simp only[X31 hd,dqEnded,dqGets]
 cases c1:(dqNext q d x.2.ws).1.ended with
 | false=>
  simp only[if_true]
  push_cast (maxSteps:=999999) -implicitDefEqProofs (disch:=omega)[aBool]
  exact ⟨_,h1⟩
 | true=>
  simp only[Bool.true_eq_false,if_false]
  have hw1:=h1.wk
  have hdq1:=QC (o:=some (dqNext q d x.2.ws).1) (j:=pl.p (.dq k)) rfl
  push_cast (maxSteps:=999999) -implicitDefEqProofs (disch:=omega)[aBool,hw1,hdq1]
  refine Q0 (dq_Got_a (h1.dqc rfl)) ?_
  rintro a σ' ⟨rfl,hs⟩
  rw[hs];clear hs
  cases c2:(dqNext q d x.2.ws).1.gets.2 with
  | false=>
   simp only[if_true]
   push_cast (maxSteps:=999999) -implicitDefEqProofs (disch:=omega)[aInt,aBool]
   refine Qd h1 rfl rfl (by decide) (wst1 _ _ _ _) ⟨rfl,rfl,rfl,rfl,rfl⟩ ?_
   intro σ2 h2 X2
   push_cast (maxSteps:=999999) -implicitDefEqProofs (disch:=omega)
   exact ⟨_,h2⟩
  | true=>
   simp only[Bool.true_eq_false,if_false]
   push_cast (maxSteps:=999999) -implicitDefEqProofs (disch:=omega)[aInt,aBool]
   refine Q0 h1.Stats_a ?_
   rintro a σ' ⟨rfl,hs⟩
   rw[hs];clear hs
   have hc:=h1.c
   push_cast (maxSteps:=999999) -implicitDefEqProofs (disch:=omega)[hc]
   refine Y38 h1 rfl rfl (by decide) (cos15 _ _ _ _) rfl ?_
   intro σ2 h2 X2
   push_cast (maxSteps:=999999) -implicitDefEqProofs (disch:=omega)
   refine Q5 h2 (X18 h2.re _) ?_
   intro a pl3 σ3 h3 X3
   push_cast (maxSteps:=999999) -implicitDefEqProofs (disch:=omega)
   exact ⟨_,h3⟩
theorem w_pop_a (h:WM q L k jw jc pl0 σ0 pl σ x) {d:Dq} (hd:x.1.dq=some d):FnG Tryz.prog 94 [.ref jw 0 0,.ref jc 0 0] σ fun _ σ'=>∃pl',WM q L k jw jc pl0 σ0 pl' σ' (popF q x):=by
 refine Q2 X95 mixed rfl ?_
 simp only[ZX]
 have hw:=h.wk
 have hdq:=QC (j:=pl.p (.dq k)) hd
 push_cast (maxSteps:=999999) -implicitDefEqProofs (disch:=omega)[hw,hdq]
 refine Q0 h.Words_a ?_
 rintro a σ' ⟨rfl,hs⟩
 rw[hs];clear hs
 push_cast (maxSteps:=999999) -implicitDefEqProofs (disch:=omega)[hw,hdq]
 refine Q0 (h.step_dq hd) ?_
 rintro a σ1 ⟨rfl,h1,X1⟩
 unfold popF
 simp only[X31 hd,dqEnded,dqGets,dqTail]
 cases c1:(dqNext q d x.2.ws).1.ended with
 | false=>
  simp only[if_true]
  push_cast (maxSteps:=999999) -implicitDefEqProofs (disch:=omega)[aBool]
  exact ⟨_,h1⟩
 | true=>
  simp only[Bool.true_eq_false,if_false]
  have hw1:=h1.wk
  have hdq1:=QC (o:=some (dqNext q d x.2.ws).1) (j:=pl.p (.dq k)) rfl
  push_cast (maxSteps:=999999) -implicitDefEqProofs (disch:=omega)[aBool,hw1,hdq1]
  refine Q0 (dq_Tail_a (h1.dqc rfl)) ?_
  rintro a σ' ⟨rfl,hs⟩
  rw[hs];clear hs
  push_cast (maxSteps:=999999) -implicitDefEqProofs (disch:=omega)[aInt]
  refine Qd h1 rfl rfl (by decide) (wst3 _ _ _ _) ⟨rfl,rfl,rfl,rfl,rfl⟩ ?_
  intro σ2 h2 X2
  have hw2:=h2.wk
  push_cast (maxSteps:=999999) -implicitDefEqProofs (disch:=omega)[hw2,hdq1]
  refine Q0 (dq_Got_a (h2.dqc rfl)) ?_
  rintro a σ' ⟨rfl,hs⟩
  rw[hs];clear hs
  cases c2:(dqNext q d x.2.ws).1.gets.2 with
  | false=>
   simp only[if_true]
   push_cast (maxSteps:=999999) -implicitDefEqProofs (disch:=omega)[aInt,aBool]
   refine Qd h2 rfl rfl (by decide) (wst1 _ _ _ _) ⟨rfl,rfl,rfl,rfl,rfl⟩ ?_
   intro σ3 h3 X3
   push_cast (maxSteps:=999999) -implicitDefEqProofs (disch:=omega)
   exact ⟨_,h3⟩
  | true=>
   simp only[Bool.true_eq_false,if_false]
   push_cast (maxSteps:=999999) -implicitDefEqProofs (disch:=omega)[aInt,aBool]
   refine Q5 h2 (X18 h2.re _) ?_
   intro a pl3 σ3 h3 X3
   push_cast (maxSteps:=999999) -implicitDefEqProofs (disch:=omega)
   exact ⟨_,h3⟩
theorem w_spawn1_a (h:WM q L k jw jc pl0 σ0 pl σ x) (id:Int):FnG Tryz.prog 163 [.ref jc 0 0,.ep [.ref jw 0 0],.ep [.v (.int .i64 id)]] σ fun _ σ'=>∃pl',WM q L k jw jc pl0 σ0 pl' σ' (x.1.runs id,x.2):=by
 refine Q2 X0 mixed rfl ?_
 simp only[Q33]
 push_cast (maxSteps:=999999) -implicitDefEqProofs (disch:=omega)
 refine Q5 h (Z46 h.re id) ?_
 intro a pl1 σ1 h1 X1
 push_cast (maxSteps:=999999) -implicitDefEqProofs (disch:=omega)
 exact ⟨_,h1⟩
theorem w_next1_a (h:WM q L k jw jc pl0 σ0 pl σ x) (id:Int):FnG Tryz.prog 290 [.ref jc 0 0,.ep [.ref jw 0 0],.ep [.v (.int .i64 id)]] σ fun _ σ'=>∃pl',WM q L k jw jc pl0 σ0 pl' σ' (x.1.takes x.2 id,x.2):=by
 refine Q2 XH mixed rfl ?_
 simp only[Q56]
 push_cast (maxSteps:=999999) -implicitDefEqProofs (disch:=omega)
 refine Q5 h (X18 h.re id) ?_
 intro a pl1 σ1 h1 X1
 push_cast (maxSteps:=999999) -implicitDefEqProofs (disch:=omega)
 exact ⟨_,h1⟩
theorem ok_looksOn:fnOk Tryz.prog 167=true:=by kernel_rfl
theorem ok_decide:fnOk Tryz.prog 169=true:=by kernel_rfl
theorem ok_stop:fnOk Tryz.prog 172=true:=by kernel_rfl
theorem ok_spawn1:fnOk Tryz.prog 163=true:=by kernel_rfl
theorem ok_next1:fnOk Tryz.prog 290=true:=by kernel_rfl
theorem wpa_then (h:WM q L k jw jc pl0 σ0 pl σ x) (hn:x.1.th≠.none) {K:AV→Kx.St→Prop} (hk:∀a pl' σ',WM q L k jw jc pl0 σ0 pl' σ' (thenF q x)→act (K a σ')):act (EF.awp Tryz.prog .callv [aTh (pl.p (.wk k)) x.1.th,.ref jc 0 0] σ K):=by
 rw[h.ew]
 cases e:x.1.th with
 | none=>exact absurd e hn
 | looksOn=>
  refine Q7 ok_looksOn rfl (X97 h) ?_
  rintro a σ' ⟨pl',h'⟩
  refine hk a pl' σ' ?_
  have e2:thenF q x=looksOnF q x:=by simp[thenF,e]
  rw[e2];exact h'
 | decide=>
  refine Q7 ok_decide rfl (Y39 h) ?_
  rintro a σ' ⟨pl',h'⟩
  refine hk a pl' σ' ?_
  have e2:thenF q x=decideF q x:=by simp[thenF,e]
  rw[e2];exact h'
 | stop=>
  refine Q7 ok_stop rfl (Jd h) ?_
  rintro a σ' ⟨pl',h'⟩
  refine hk a pl' σ' ?_
  have e2:thenF q x=stopF x:=by simp[thenF,e]
  rw[e2];exact h'
 | runs id=>
  refine Q7 ok_spawn1 rfl (w_spawn1_a h id) ?_
  rintro a σ' ⟨pl',h'⟩
  refine hk a pl' σ' ?_
  have e2:thenF q x=(x.1.runs id,x.2):=by simp[thenF,e]
  rw[e2];exact h'
 | takes id=>
  refine Q7 ok_next1 rfl (w_next1_a h id) ?_
  rintro a σ' ⟨pl',h'⟩
  refine hk a pl' σ' ?_
  have e2:thenF q x=(x.1.takes x.2 id,x.2):=by simp[thenF,e]
  rw[e2];exact h'
theorem w_push_a (h:WM q L k jw jc pl0 σ0 pl σ x) {d:Dq} (hd:x.1.dq=some d) (hth:x.1.th≠.none):FnG Tryz.prog 95 [.ref jw 0 0,.ref jc 0 0] σ fun _ σ'=>∃pl',WM q L k jw jc pl0 σ0 pl' σ' (pushF q x):=by
 refine Q2 X41 mixed rfl ?_
 simp only[Z4]
 have hw:=h.wk
 have hdq:=QC (j:=pl.p (.dq k)) hd
 push_cast (maxSteps:=999999) -implicitDefEqProofs (disch:=omega)[hw,hdq]
 refine Q0 h.Words_a ?_
 rintro a σ' ⟨rfl,hs⟩
 rw[hs];clear hs
 push_cast (maxSteps:=999999) -implicitDefEqProofs (disch:=omega)[hw,hdq]
 refine Q0 (h.step_dq hd) ?_
 rintro a σ1 ⟨rfl,h1,X1⟩
 unfold pushF
 simp only[X31 hd,dqEnded,dqFull,dqTail]
 cases c1:(dqNext q d x.2.ws).1.ended with
 | false=>
  simp only[if_true]
  push_cast (maxSteps:=999999) -implicitDefEqProofs (disch:=omega)[aBool]
  exact ⟨_,h1⟩
 | true=>
  simp only[Bool.true_eq_false,if_false]
  have hw1:=h1.wk
  have hdq1:=QC (o:=some (dqNext q d x.2.ws).1) (j:=pl.p (.dq k)) rfl
  push_cast (maxSteps:=999999) -implicitDefEqProofs (disch:=omega)[aBool,hw1,hdq1]
  refine Q0 (dq_Tail_a (h1.dqc rfl)) ?_
  rintro a σ' ⟨rfl,hs⟩
  rw[hs];clear hs
  push_cast (maxSteps:=999999) -implicitDefEqProofs (disch:=omega)[aInt]
  refine Qd h1 rfl rfl (by decide) (wst3 _ _ _ _) ⟨rfl,rfl,rfl,rfl,rfl⟩ ?_
  intro σ2 h2 X2
  have hw2:=h2.wk
  push_cast (maxSteps:=999999) -implicitDefEqProofs (disch:=omega)[hw2,hdq1]
  refine Q0 (dq_Full_a (h2.dqc rfl)) ?_
  rintro a σ' ⟨rfl,hs⟩
  rw[hs];clear hs
  cases c2:(dqNext q d x.2.ws).1.full with
  | true=>
   simp only[if_true]
   push_cast (maxSteps:=999999) -implicitDefEqProofs (disch:=omega)[aBool]
   refine Q5 h2 (h2.re.Stop_a 5 2) ?_
   intro a pl3 σ3 h3 X3
   push_cast (maxSteps:=999999) -implicitDefEqProofs (disch:=omega)
   exact ⟨_,h3⟩
  | false=>
   simp only[Bool.false_eq_true,if_false]
   push_cast (maxSteps:=999999) -implicitDefEqProofs (disch:=omega)[aBool,hw2]
   refine wpa_then h2 hth ?_
   intro a pl3 σ3 h3
   push_cast (maxSteps:=999999) -implicitDefEqProofs (disch:=omega)
   exact ⟨_,h3⟩
end
end Go.Proofs.YtelibaobkcokdaaGreat.Mx
