/- The machine: a worker's step. -/
import Derived.Test.YtelibaobkcokdaaGreatQU2Mxa
namespace Go.Proofs.YtelibaobkcokdaaGreat.Mx
set_option linter.unusedSectionVars false
set_option linter.unusedVariables false
set_option linter.unusedSimpArgs false
open Go Go.Kx Go.Proofs Go.Proofs.YtelibaobkcokdaaGreat
set_option maxRecDepth 8000
structure WkOk (w:Wk):Prop where
 st:0≤w.state∧w.state≤24
 dq:w.state=1∨w.state=2∨w.state=3→∃d,w.dq=some d
 th:w.state=3→w.th≠.none
 right:w.state=11→∃d,w.right=some d
 park:w.state=13→∃d,w.park=some d
 wake:w.state=15→∃d,w.wake=some d
 nap:w.state=20→∃d,w.nap=some d
theorem oka_steal:fnOk Tryz.prog 93=true:=by kernel_rfl
theorem oka_pop:fnOk Tryz.prog 94=true:=by kernel_rfl
theorem oka_push:fnOk Tryz.prog 95=true:=by kernel_rfl
theorem oka_run:fnOk Tryz.prog 96=true:=by kernel_rfl
theorem oka_joined:fnOk Tryz.prog 97=true:=by kernel_rfl
theorem oka_spawn:fnOk Tryz.prog 98=true:=by kernel_rfl
theorem oka_arrive:fnOk Tryz.prog 99=true:=by kernel_rfl
theorem oka_resume:fnOk Tryz.prog 100=true:=by kernel_rfl
theorem oka_advance:fnOk Tryz.prog 101=true:=by kernel_rfl
theorem oka_peek:fnOk Tryz.prog 102=true:=by kernel_rfl
theorem oka_check:fnOk Tryz.prog 103=true:=by kernel_rfl
theorem oka_look:fnOk Tryz.prog 104=true:=by kernel_rfl
theorem oka_parks:fnOk Tryz.prog 105=true:=by kernel_rfl
theorem oka_ends:fnOk Tryz.prog 179=true:=by kernel_rfl
theorem oka_closes:fnOk Tryz.prog 180=true:=by kernel_rfl
theorem oka_drop:fnOk Tryz.prog 181=true:=by kernel_rfl
theorem oka_finish:fnOk Tryz.prog 182=true:=by kernel_rfl
theorem oka_complete:fnOk Tryz.prog 183=true:=by kernel_rfl
theorem oka_loop:fnOk Tryz.prog 184=true:=by kernel_rfl
theorem oka_naps:fnOk Tryz.prog 185=true:=by kernel_rfl
theorem oka_start:fnOk Tryz.prog 186=true:=by kernel_rfl
theorem oka_count:fnOk Tryz.prog 187=true:=by kernel_rfl
theorem oka_name:fnOk Tryz.prog 188=true:=by kernel_rfl
theorem oka_joins:fnOk Tryz.prog 189=true:=by kernel_rfl
def lateAV (st:Int):AV:=if st=14 then .fn (.func 179) 0 [] else if st=15 then .fn (.func 180) 0 [] else if st=16 then .fn (.func 181) 0 [] else if st=17 then .fn (.func 182) 0 [] else if st=18 then .fn (.func 183) 0 [] else if st=19 then .fn (.func 184) 0 [] else if st=20 then .fn (.func 185) 0 [] else if st=21 then .fn (.func 186) 0 [] else if st=22 then .fn (.func 187) 0 [] else if st=23 then .fn (.func 188) 0 [] else .fn (.func 189) 0 []
def actAV (st:Int):AV:=if st=1 then .fn (.func 93) 0 [] else if st=2 then .fn (.func 94) 0 [] else if st=3 then .fn (.func 95) 0 [] else if st=4 then .fn (.func 96) 0 [] else if st=5 then .fn (.func 97) 0 [] else if st=6 then .fn (.func 98) 0 [] else if st=7 then .fn (.func 99) 0 [] else if st=8 then .fn (.func 100) 0 [] else if st=9 then .fn (.func 101) 0 [] else if st=10 then .fn (.func 102) 0 [] else if st=11 then .fn (.func 103) 0 [] else if st=12 then .fn (.func 104) 0 [] else if st=13 then .fn (.func 105) 0 [] else lateAV st
theorem w_later_a (st:Int):FnP Tryz.prog 106 [.v (.int .i64 st)] fun a=>a=lateAV st:=by
 refine Qg J26 mixed rfl rfl ?_
 simp only[X76]
 by_cases c14:st=14
 ·subst c14
  push_cast (maxSteps:=999999) -implicitDefEqProofs (disch:=omega)
  first|exact ⟨[],rfl,rfl⟩|exact ⟨[],rfl⟩
 by_cases c15:st=15
 ·subst c15
  push_cast (maxSteps:=999999) -implicitDefEqProofs (disch:=omega)
  first|exact ⟨[],rfl,rfl⟩|exact ⟨[],rfl⟩
 by_cases c16:st=16
 ·subst c16
  push_cast (maxSteps:=999999) -implicitDefEqProofs (disch:=omega)
  first|exact ⟨[],rfl,rfl⟩|exact ⟨[],rfl⟩
 by_cases c17:st=17
 ·subst c17
  push_cast (maxSteps:=999999) -implicitDefEqProofs (disch:=omega)
  first|exact ⟨[],rfl,rfl⟩|exact ⟨[],rfl⟩
 by_cases c18:st=18
 ·subst c18
  push_cast (maxSteps:=999999) -implicitDefEqProofs (disch:=omega)
  first|exact ⟨[],rfl,rfl⟩|exact ⟨[],rfl⟩
 by_cases c19:st=19
 ·subst c19
  push_cast (maxSteps:=999999) -implicitDefEqProofs (disch:=omega)
  first|exact ⟨[],rfl,rfl⟩|exact ⟨[],rfl⟩
 by_cases c20:st=20
 ·subst c20
  push_cast (maxSteps:=999999) -implicitDefEqProofs (disch:=omega)
  first|exact ⟨[],rfl,rfl⟩|exact ⟨[],rfl⟩
 by_cases c21:st=21
 ·subst c21
  push_cast (maxSteps:=999999) -implicitDefEqProofs (disch:=omega)
  first|exact ⟨[],rfl,rfl⟩|exact ⟨[],rfl⟩
 by_cases c22:st=22
 ·subst c22
  push_cast (maxSteps:=999999) -implicitDefEqProofs (disch:=omega)
  first|exact ⟨[],rfl,rfl⟩|exact ⟨[],rfl⟩
 by_cases c23:st=23
 ·subst c23
  push_cast (maxSteps:=999999) -implicitDefEqProofs (disch:=omega)
  first|exact ⟨[],rfl,rfl⟩|exact ⟨[],rfl⟩
 push_cast (maxSteps:=999999) -implicitDefEqProofs (disch:=omega)[c14,c15,c16,c17,c18,c19,c20,c21,c22,c23]
 exact ⟨[],by simp[lateAV,c14,c15,c16,c17,c18,c19,c20,c21,c22,c23,AV.res,AV.pure,AV.pureL,AV.resL]⟩
theorem late_pure (st:Int):(lateAV st).pure=true:=by
 unfold lateAV
 repeat' split
 all_goals rfl
theorem late_res (σ:Kx.St) (st:Int):(lateAV st).res σ=lateAV st:=by
 unfold lateAV
 repeat' split
 all_goals rfl
theorem w_act_a (st:Int):FnP Tryz.prog 52 [.v (.int .i64 st)] fun a=>a=actAV st:=by
 refine Qg K_worker_act mixed rfl rfl ?_
 simp only[Y73]
 by_cases c1:st=1
 ·subst c1
  push_cast (maxSteps:=999999) -implicitDefEqProofs (disch:=omega)
  first|exact ⟨[],rfl,rfl⟩|exact ⟨[],rfl⟩
 by_cases c2:st=2
 ·subst c2
  push_cast (maxSteps:=999999) -implicitDefEqProofs (disch:=omega)
  first|exact ⟨[],rfl,rfl⟩|exact ⟨[],rfl⟩
 by_cases c3:st=3
 ·subst c3
  push_cast (maxSteps:=999999) -implicitDefEqProofs (disch:=omega)
  first|exact ⟨[],rfl,rfl⟩|exact ⟨[],rfl⟩
 by_cases c4:st=4
 ·subst c4
  push_cast (maxSteps:=999999) -implicitDefEqProofs (disch:=omega)
  first|exact ⟨[],rfl,rfl⟩|exact ⟨[],rfl⟩
 by_cases c5:st=5
 ·subst c5
  push_cast (maxSteps:=999999) -implicitDefEqProofs (disch:=omega)
  first|exact ⟨[],rfl,rfl⟩|exact ⟨[],rfl⟩
 by_cases c6:st=6
 ·subst c6
  push_cast (maxSteps:=999999) -implicitDefEqProofs (disch:=omega)
  first|exact ⟨[],rfl,rfl⟩|exact ⟨[],rfl⟩
 by_cases c7:st=7
 ·subst c7
  push_cast (maxSteps:=999999) -implicitDefEqProofs (disch:=omega)
  first|exact ⟨[],rfl,rfl⟩|exact ⟨[],rfl⟩
 by_cases c8:st=8
 ·subst c8
  push_cast (maxSteps:=999999) -implicitDefEqProofs (disch:=omega)
  first|exact ⟨[],rfl,rfl⟩|exact ⟨[],rfl⟩
 by_cases c9:st=9
 ·subst c9
  push_cast (maxSteps:=999999) -implicitDefEqProofs (disch:=omega)
  first|exact ⟨[],rfl,rfl⟩|exact ⟨[],rfl⟩
 by_cases c10:st=10
 ·subst c10
  push_cast (maxSteps:=999999) -implicitDefEqProofs (disch:=omega)
  first|exact ⟨[],rfl,rfl⟩|exact ⟨[],rfl⟩
 by_cases c11:st=11
 ·subst c11
  push_cast (maxSteps:=999999) -implicitDefEqProofs (disch:=omega)
  first|exact ⟨[],rfl,rfl⟩|exact ⟨[],rfl⟩
 by_cases c12:st=12
 ·subst c12
  push_cast (maxSteps:=999999) -implicitDefEqProofs (disch:=omega)
  first|exact ⟨[],rfl,rfl⟩|exact ⟨[],rfl⟩
 by_cases c13:st=13
 ·subst c13
  push_cast (maxSteps:=999999) -implicitDefEqProofs (disch:=omega)
  first|exact ⟨[],rfl,rfl⟩|exact ⟨[],rfl⟩
 push_cast (maxSteps:=999999) -implicitDefEqProofs (disch:=omega)[c1,c2,c3,c4,c5,c6,c7,c8,c9,c10,c11,c12,c13]
 refine Q1 (w_later_a st) ?_
 rintro a rfl
 push_cast (maxSteps:=999999) -implicitDefEqProofs (disch:=omega)
 have e:actAV st=lateAV st:=by simp[actAV,c1,c2,c3,c4,c5,c6,c7,c8,c9,c10,c11,c12,c13]
 rw[e]
 exact ⟨[],by rw[late_res];exact late_pure _,late_res _ _⟩
section
variable {q:Pm} {L:List Wk} {k jw jc:Nat} {pl0 pl:Pl} {σ0 σ:Kx.St} {x:WC}
theorem wpa_act (h:WM q L k jw jc pl0 σ0 pl σ x) (hok:WkOk x.1) (hs:x.1.state≠0) (hlg:x.2.log.length+1≤1000000000) (hbk:x.2.back.length≤1000000000) (hF:x.2.Fresh) {K:AV→Kx.St→Prop}
  (hk:∀a pl' σ',WM q L k jw jc pl0 σ0 pl' σ' (actF q x)→act (K a σ')):act (EF.awp Tryz.prog .callv [actAV x.1.state,.ref jw 0 0,.ref jc 0 0] σ K):=by
 have hst:=hok.st
 have hcs:x.1.state=1∨x.1.state=2∨x.1.state=3∨x.1.state=4∨x.1.state=5∨x.1.state=6∨x.1.state=7∨x.1.state=8∨x.1.state=9∨x.1.state=10∨x.1.state=11∨x.1.state=12∨x.1.state=13∨x.1.state=14∨x.1.state=15∨x.1.state=16∨x.1.state=17∨x.1.state=18∨x.1.state=19∨x.1.state=20∨x.1.state=21∨x.1.state=22∨x.1.state=23∨x.1.state=24:=by omega
 rcases hcs with e|e|e|e|e|e|e|e|e|e|e|e|e|e|e|e|e|e|e|e|e|e|e|e
 ·have ea:actAV x.1.state=.fn (.func 93) 0 []:=by rw[e];rfl
  have eb:actF q x=stealF q x:=by simp[actF,e]
  rw[ea]
  rw[eb] at hk
  obtain ⟨d,hd⟩:=hok.dq (by omega)
  refine Q7 oka_steal rfl (w_steal_a h hd) ?_
  rintro a σ' ⟨pl',h'⟩
  exact hk a pl' σ' h'
 ·have ea:actAV x.1.state=.fn (.func 94) 0 []:=by rw[e];rfl
  have eb:actF q x=popF q x:=by simp[actF,e]
  rw[ea]
  rw[eb] at hk
  obtain ⟨d,hd⟩:=hok.dq (by omega)
  refine Q7 oka_pop rfl (w_pop_a h hd) ?_
  rintro a σ' ⟨pl',h'⟩
  exact hk a pl' σ' h'
 ·have ea:actAV x.1.state=.fn (.func 95) 0 []:=by rw[e];rfl
  have eb:actF q x=pushF q x:=by simp[actF,e]
  rw[ea]
  rw[eb] at hk
  obtain ⟨d,hd⟩:=hok.dq (by omega)
  refine Q7 oka_push rfl (w_push_a h hd (hok.th e)) ?_
  rintro a σ' ⟨pl',h'⟩
  exact hk a pl' σ' h'
 ·have ea:actAV x.1.state=.fn (.func 96) 0 []:=by rw[e];rfl
  have eb:actF q x=runF q x:=by simp[actF,e]
  rw[ea]
  rw[eb] at hk
  refine Q7 oka_run rfl (w_run_a h (by omega) hbk hF) ?_
  rintro a σ' ⟨pl',h'⟩
  exact hk a pl' σ' h'
 ·have ea:actAV x.1.state=.fn (.func 97) 0 []:=by rw[e];rfl
  have eb:actF q x=joinedF q x:=by simp[actF,e]
  rw[ea]
  rw[eb] at hk
  refine Q7 oka_joined rfl (w_joined_a h) ?_
  rintro a σ' ⟨pl',h'⟩
  exact hk a pl' σ' h'
 ·have ea:actAV x.1.state=.fn (.func 98) 0 []:=by rw[e];rfl
  have eb:actF q x=spawnF q x:=by simp[actF,e]
  rw[ea]
  rw[eb] at hk
  refine Q7 oka_spawn rfl (w_spawn_a h) ?_
  rintro a σ' ⟨pl',h'⟩
  exact hk a pl' σ' h'
 ·have ea:actAV x.1.state=.fn (.func 99) 0 []:=by rw[e];rfl
  have eb:actF q x=arriveF q x:=by simp[actF,e]
  rw[ea]
  rw[eb] at hk
  refine Q7 oka_arrive rfl (w_arrive_a h) ?_
  rintro a σ' ⟨pl',h'⟩
  exact hk a pl' σ' h'
 ·have ea:actAV x.1.state=.fn (.func 100) 0 []:=by rw[e];rfl
  have eb:actF q x=resumeF q x:=by simp[actF,e]
  rw[ea]
  rw[eb] at hk
  refine Q7 oka_resume rfl (w_resume_a h) ?_
  rintro a σ' ⟨pl',h'⟩
  exact hk a pl' σ' h'
 ·have ea:actAV x.1.state=.fn (.func 101) 0 []:=by rw[e];rfl
  have eb:actF q x=advanceF q x:=by simp[actF,e]
  rw[ea]
  rw[eb] at hk
  refine Q7 oka_advance rfl (w_advance_a h (by omega)) ?_
  rintro a σ' ⟨pl',h'⟩
  exact hk a pl' σ' h'
 ·have ea:actAV x.1.state=.fn (.func 102) 0 []:=by rw[e];rfl
  have eb:actF q x=peekF q x:=by simp[actF,e]
  rw[ea]
  rw[eb] at hk
  refine Q7 oka_peek rfl (w_peek_a h) ?_
  rintro a σ' ⟨pl',h'⟩
  exact hk a pl' σ' h'
 ·have ea:actAV x.1.state=.fn (.func 103) 0 []:=by rw[e];rfl
  have eb:actF q x=checkF2 q x:=by simp[actF,e]
  rw[ea]
  rw[eb] at hk
  obtain ⟨d,hd⟩:=hok.right (by omega)
  refine Q7 oka_check rfl (w_check_a h hd) ?_
  rintro a σ' ⟨pl',h'⟩
  exact hk a pl' σ' h'
 ·have ea:actAV x.1.state=.fn (.func 104) 0 []:=by rw[e];rfl
  have eb:actF q x=lookF q x:=by simp[actF,e]
  rw[ea]
  rw[eb] at hk
  refine Q7 oka_look rfl (w_look_a h) ?_
  rintro a σ' ⟨pl',h'⟩
  exact hk a pl' σ' h'
 ·have ea:actAV x.1.state=.fn (.func 105) 0 []:=by rw[e];rfl
  have eb:actF q x=parksF q x:=by simp[actF,e]
  rw[ea]
  rw[eb] at hk
  obtain ⟨d,hd⟩:=hok.park (by omega)
  refine Q7 oka_parks rfl (w_parks_a h hd) ?_
  rintro a σ' ⟨pl',h'⟩
  exact hk a pl' σ' h'
 ·have ea:actAV x.1.state=.fn (.func 179) 0 []:=by rw[e];rfl
  have eb:actF q x=endsF q x:=by simp[actF,e]
  rw[ea]
  rw[eb] at hk
  refine Q7 oka_ends rfl (w_ends_a h (by omega)) ?_
  rintro a σ' ⟨pl',h'⟩
  exact hk a pl' σ' h'
 ·have ea:actAV x.1.state=.fn (.func 180) 0 []:=by rw[e];rfl
  have eb:actF q x=closesF q x:=by simp[actF,e]
  rw[ea]
  rw[eb] at hk
  obtain ⟨d,hd⟩:=hok.wake (by omega)
  refine Q7 oka_closes rfl (w_closes_a h hd) ?_
  rintro a σ' ⟨pl',h'⟩
  exact hk a pl' σ' h'
 ·have ea:actAV x.1.state=.fn (.func 181) 0 []:=by rw[e];rfl
  have eb:actF q x=dropF q x:=by simp[actF,e]
  rw[ea]
  rw[eb] at hk
  refine Q7 oka_drop rfl (w_drop_a h hbk) ?_
  rintro a σ' ⟨pl',h'⟩
  exact hk a pl' σ' h'
 ·have ea:actAV x.1.state=.fn (.func 182) 0 []:=by rw[e];rfl
  have eb:actF q x=finishF q x:=by simp[actF,e]
  rw[ea]
  rw[eb] at hk
  refine Q7 oka_finish rfl (w_finish_a h) ?_
  rintro a σ' ⟨pl',h'⟩
  exact hk a pl' σ' h'
 ·have ea:actAV x.1.state=.fn (.func 183) 0 []:=by rw[e];rfl
  have eb:actF q x=completeF x:=by simp[actF,e]
  rw[ea]
  rw[eb] at hk
  refine Q7 oka_complete rfl (w_complete_a h hbk (by omega)) ?_
  rintro a σ' ⟨pl',h'⟩
  exact hk a pl' σ' h'
 ·have ea:actAV x.1.state=.fn (.func 184) 0 []:=by rw[e];rfl
  have eb:actF q x=loopF q x:=by simp[actF,e]
  rw[ea]
  rw[eb] at hk
  refine Q7 oka_loop rfl (w_loop_a h hbk hF) ?_
  rintro a σ' ⟨pl',h'⟩
  exact hk a pl' σ' h'
 ·have ea:actAV x.1.state=.fn (.func 185) 0 []:=by rw[e];rfl
  have eb:actF q x=napsF q x:=by simp[actF,e]
  rw[ea]
  rw[eb] at hk
  obtain ⟨d,hd⟩:=hok.nap (by omega)
  refine Q7 oka_naps rfl (w_naps_a h hd) ?_
  rintro a σ' ⟨pl',h'⟩
  exact hk a pl' σ' h'
 ·have ea:actAV x.1.state=.fn (.func 186) 0 []:=by rw[e];rfl
  have eb:actF q x=startF q x:=by simp[actF,e]
  rw[ea]
  rw[eb] at hk
  refine Q7 oka_start rfl (w_start_a h hbk hF) ?_
  rintro a σ' ⟨pl',h'⟩
  exact hk a pl' σ' h'
 ·have ea:actAV x.1.state=.fn (.func 187) 0 []:=by rw[e];rfl
  have eb:actF q x=countF q x:=by simp[actF,e]
  rw[ea]
  rw[eb] at hk
  refine Q7 oka_count rfl (w_count_a h) ?_
  rintro a σ' ⟨pl',h'⟩
  exact hk a pl' σ' h'
 ·have ea:actAV x.1.state=.fn (.func 188) 0 []:=by rw[e];rfl
  have eb:actF q x=nameF2 q x:=by simp[actF,e]
  rw[ea]
  rw[eb] at hk
  refine Q7 oka_name rfl (w_name_a h) ?_
  rintro a σ' ⟨pl',h'⟩
  exact hk a pl' σ' h'
 ·have ea:actAV x.1.state=.fn (.func 189) 0 []:=by rw[e];rfl
  have eb:actF q x=joinsF q x:=by simp[actF,e]
  rw[ea]
  rw[eb] at hk
  refine Q7 oka_joins rfl (w_joins_a h hlg) ?_
  rintro a σ' ⟨pl',h'⟩
  exact hk a pl' σ' h'
theorem w_Step_a (h:WM q L k jw jc pl0 σ0 pl σ x) (hok:WkOk x.1) (hlg:x.2.log.length+1≤1000000000) (hbk:x.2.back.length≤1000000000) (hF:x.2.Fresh) (victim:Int):FnG Tryz.prog 14 [.ref jw 0 0,.ref jc 0 0,.v (.int .i64 victim)] σ fun _ σ'=>∃pl',WM q L k jw jc pl0 σ0 pl' σ' (wkStep q x victim):=by
 refine Q2 X37 mixed rfl ?_
 simp only[Z0]
 push_cast (maxSteps:=999999) -implicitDefEqProofs (disch:=omega)
 refine Q0 h.Status_a ?_
 rintro a σ' ⟨rfl,hs⟩
 rw[hs];clear hs
 unfold wkStep
 by_cases c:x.2.status≠0
 ·rw[if_pos c]
  push_cast (maxSteps:=999999) -implicitDefEqProofs (disch:=omega)[aInt,c]
  exact ⟨_,h⟩
 ·rw[if_neg c]
  have c0:x.2.status=0:=Classical.not_not.mp c
  have e1:aInt x.2.status=.v (.int .i64 0):=by rw[c0];rfl
  rw[e1]
  push_cast (maxSteps:=999999) -implicitDefEqProofs (disch:=omega)[aInt]
  refine Q0 h.Stats_a ?_
  rintro a σ' ⟨rfl,hs⟩
  rw[hs];clear hs
  have hc:=h.c
  have g13:(aCore q pl x.2)[13]?=some (.v (.int .i64 x.2.steps)):=rfl
  push_cast (maxSteps:=999999) -implicitDefEqProofs (disch:=omega)[hc,g13,J60,Nat.add_zero]
  refine Y38 h rfl rfl (by decide) (cos13 _ _ _ _) rfl ?_
  intro σ1 h1 X1
  have hw1:=h1.wk
  have g1:(aWk pl k x.1)[1]?=some (.v (.int .i64 x.1.state)):=rfl
  by_cases c2:x.1.state=0
  ·simp only[c2,if_true]
   rw[c2] at g1
   push_cast (maxSteps:=999999) -implicitDefEqProofs (disch:=omega)[hw1,g1]
   refine Q0 (w_seek_a h1 victim) ?_
   rintro a σ2 ⟨pl2,h2⟩
   push_cast (maxSteps:=999999) -implicitDefEqProofs (disch:=omega)
   exact ⟨_,h2⟩
  ·simp only[c2,if_false]
   push_cast (maxSteps:=999999) -implicitDefEqProofs (disch:=omega)[hw1,g1,c2]
   refine Q1 (w_act_a x.1.state) ?_
   rintro a rfl
   push_cast (maxSteps:=999999) -implicitDefEqProofs (disch:=omega)
   refine wpa_act h1 hok c2 hlg hbk hF ?_
   intro a pl2 σ2 h2
   push_cast (maxSteps:=999999) -implicitDefEqProofs (disch:=omega)
   exact ⟨_,h2⟩
end
end Go.Proofs.YtelibaobkcokdaaGreat.Mx
