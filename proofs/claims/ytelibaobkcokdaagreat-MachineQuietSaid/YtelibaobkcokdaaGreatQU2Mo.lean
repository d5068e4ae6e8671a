/- The machine: what a worker does at once. -/
import Derived.Test.YtelibaobkcokdaaGreatQU2Mn
namespace Go.Proofs.YtelibaobkcokdaaGreat.Mx
set_option linter.unusedSectionVars false
set_option linter.unusedVariables false
set_option linter.unusedSimpArgs false
open Go Go.Kx Go.Proofs Go.Proofs.YtelibaobkcokdaaGreat
set_option maxRecDepth 8000
section
variable (pl:Pl) (k:Nat) (w:Wk) (q:Pm) (s:Cs)
theorem wi9s:(aWk pl k w)[8+1]?=some (.v (.bool w.gWaits)):=rfl
theorem wi10s:(aWk pl k w)[8+2]?=some (.v (.bool w.gLooked)):=rfl
theorem wi11s:(aWk pl k w)[8+3]?=some (.v (.int .i64 w.gWhy)):=rfl
theorem wi13s:(aWk pl k w)[12+1]?=some (.v (.bool w.eBreaks)):=rfl
theorem wi14s:(aWk pl k w)[12+2]?=some (.v (.int .i64 w.eRight)):=rfl
theorem wi15s:(aWk pl k w)[12+3]?=some (.v (.bool w.eWoken)):=rfl
theorem co14s:(aCore q pl s)[13+1]?=some (.v (.int .i64 s.probes)):=rfl
theorem co15s:(aCore q pl s)[13+2]?=some (.v (.int .i64 s.steals)):=rfl
theorem co16s:(aCore q pl s)[13+3]?=some (.v (.int .i64 s.parks)):=rfl
theorem co17s:(aCore q pl s)[13+4]?=some (.v (.int .i64 s.naps)):=rfl
theorem co18s:(aCore q pl s)[13+5]?=some (.v (.int .i64 s.folds)):=rfl
end
attribute [push_cast] wi9s wi10s wi11s wi13s wi14s wi15s co14s co15s co16s co17s co18s
section
variable {q:Pm} {L:List Wk} {k jw jc:Nat} {pl0 pl:Pl} {σ0 σ:Kx.St} {x:WC}
theorem Y75 (c st:Int):FnP Tryz.prog 175 [.v (.int .i64 c),.v (.int .i64 st)] fun a=>a=aBool (decide (st < c)):=by
 refine Qg K_stage_Past mixed rfl (by simp[AV.pureL,AV.pure]) ?_
 simp only[Y46]
 push_cast (maxSteps:=999999) -implicitDefEqProofs (disch:=omega)[aBool]
 first|exact ⟨[],rfl,rfl⟩|exact ⟨[],rfl⟩
theorem Z46 (h:WM q L k jw jc pl0 σ0 pl σ x) (id:Int):FnG Tryz.prog 49 [.ref jw 0 0,.v (.int .i64 id)] σ fun _ σ'=>∃pl',WM q L k jw jc pl0 σ0 pl' σ' (x.1.runs id,x.2):=by
 refine Q2 X39 mixed rfl ?_
 simp only[Z2]
 push_cast (maxSteps:=999999) -implicitDefEqProofs (disch:=omega)
 refine Qd h rfl rfl (by decide) (wst2 _ _ _ _) ⟨rfl,rfl,rfl,rfl,rfl⟩ ?_
 intro σ1 h1 X1
 push_cast (maxSteps:=999999) -implicitDefEqProofs (disch:=omega)
 refine Qd h1 rfl rfl (by decide) (wst1 _ _ _ _) ⟨rfl,rfl,rfl,rfl,rfl⟩ ?_
 intro σ2 h2 X2
 push_cast (maxSteps:=999999) -implicitDefEqProofs (disch:=omega)
 exact ⟨_,h2⟩
theorem J09 (h:WM q L k jw jc pl0 σ0 pl σ x) (id:Int):FnG Tryz.prog 219 [.ref jw 0 0,.v (.int .i64 id)] σ fun _ σ'=>∃pl',WM q L k jw jc pl0 σ0 pl' σ' (x.1.loops id,x.2):=by
 refine Q2 X16 mixed rfl ?_
 simp only[Q86]
 push_cast (maxSteps:=999999) -implicitDefEqProofs (disch:=omega)
 refine Qd h rfl rfl (by decide) (wst2 _ _ _ _) ⟨rfl,rfl,rfl,rfl,rfl⟩ ?_
 intro σ1 h1 X1
 push_cast (maxSteps:=999999) -implicitDefEqProofs (disch:=omega)
 refine Qd h1 rfl rfl (by decide) (wst1 _ _ _ _) ⟨rfl,rfl,rfl,rfl,rfl⟩ ?_
 intro σ2 h2 X2
 push_cast (maxSteps:=999999) -implicitDefEqProofs (disch:=omega)
 exact ⟨_,h2⟩
theorem X18 (h:WM q L k jw jc pl0 σ0 pl σ x) (id:Int):FnG Tryz.prog 143 [.ref jw 0 0,.ref jc 0 0,.v (.int .i64 id)] σ fun _ σ'=>∃pl',WM q L k jw jc pl0 σ0 pl' σ' (x.1.takes x.2 id,x.2):=by
 refine Q2 X10 mixed rfl ?_
 simp only[Q81]
 push_cast (maxSteps:=999999) -implicitDefEqProofs (disch:=omega)
 refine Q0 h.Frames_a ?_
 rintro a σ' ⟨rfl,hs⟩
 rw[hs];clear hs
 push_cast (maxSteps:=999999) -implicitDefEqProofs (disch:=omega)
 refine Q0 (J62 h.mm id) ?_
 rintro a σ' ⟨rfl,hs⟩
 rw[hs];clear hs
 cases c:x.2.isHeld id with
 | false=>
  have e:x.1.takes x.2 id=x.1.runs id:=if_neg (by simp[c])
  rw[e]
  push_cast (maxSteps:=999999) -implicitDefEqProofs (disch:=omega)
  refine Q5 h (Z46 h.re id) ?_
  intro a pl1 σ1 h1 X1
  push_cast (maxSteps:=999999) -implicitDefEqProofs (disch:=omega)
  exact ⟨_,h1⟩
 | true=>
  have hf:=h.mm.fp σ.length c
  obtain ⟨cs,hcs,g,g8,g19,_⟩:=hf.get
  have g0:=g 0 _ rfl
  rw[Nat.add_zero] at g0
  by_cases c2:(x.2.at id).kind=3
  ·have e:x.1.takes x.2 id=x.1.loops id:=if_pos ⟨c,c2⟩
   rw[e]
   rw[c2] at g0
   push_cast (maxSteps:=999999) -implicitDefEqProofs (disch:=omega)[hcs,g0,Nat.add_zero]
   refine Q5 h (J09 h.re id) ?_
   intro a pl1 σ1 h1 X1
   push_cast (maxSteps:=999999) -implicitDefEqProofs (disch:=omega)
   exact ⟨_,h1⟩
  ·have e:x.1.takes x.2 id=x.1.runs id:=if_neg (by simp[c2])
   rw[e]
   push_cast (maxSteps:=999999) -implicitDefEqProofs (disch:=omega)[hcs,g0,Nat.add_zero,c2]
   refine Q5 h (Z46 h.re id) ?_
   intro a pl1 σ1 h1 X1
   push_cast (maxSteps:=999999) -implicitDefEqProofs (disch:=omega)
   exact ⟨_,h1⟩
theorem J10 (h:WM q L k jw jc pl0 σ0 pl σ x) {P:Program} {K:AV→Kx.St→Prop} {d:Dq} (hok:DqOk q d) (hk:∀pl' σ',WM q L k jw jc pl0 σ0 pl' σ' ({ x.1 with dq:=some d },x.2)→Ext pl pl' σ σ'→act (K (.v undef) σ')):act (EF.awp P (.st 1) [.ref jw 0 5,.ref σ.length 0 0] (σ++[.obj 0 (aDq q σ.length d)]) K):=by
 refine Q6 rfl rfl (Qj h.wk) (by rw[X78];decide) ?_
 obtain ⟨h1,h2⟩:=h.mm.new_dq h.hk d hok
 rw[List.set_set,h.ew] at h1
 rw[h.ew] at h2
 exact hk _ _ ⟨h1,h.kl,(h2.fix _ rfl).trans h.ew,(h2.fix _ rfl).trans h.ec,h.ex.trans h2⟩ h2
theorem wpa_newright (h:WM q L k jw jc pl0 σ0 pl σ x) {P:Program} {K:AV→Kx.St→Prop} {d:Rt} (hk:∀pl' σ',WM q L k jw jc pl0 σ0 pl' σ' ({ x.1 with right:=some d },x.2)→Ext pl pl' σ σ'→act (K (.v undef) σ')):act (EF.awp P (.st 1) [.ref jw 0 16,.ref σ.length 0 0] (σ++[.obj 0 (aRt q d)]) K):=by
 refine Q6 rfl rfl (Qj h.wk) (by rw[X78];decide) ?_
 obtain ⟨h1,h2⟩:=h.mm.new_right h.hk d
 rw[List.set_set,h.ew] at h1
 rw[h.ew] at h2
 exact hk _ _ ⟨h1,h.kl,(h2.fix _ rfl).trans h.ew,(h2.fix _ rfl).trans h.ec,h.ex.trans h2⟩ h2
theorem wpa_newpark (h:WM q L k jw jc pl0 σ0 pl σ x) {P:Program} {K:AV→Kx.St→Prop} {d:Pk} (hk:∀pl' σ',WM q L k jw jc pl0 σ0 pl' σ' ({ x.1 with park:=some d },x.2)→Ext pl pl' σ σ'→act (K (.v undef) σ')):act (EF.awp P (.st 1) [.ref jw 0 17,.ref σ.length 0 0] (σ++[.obj 0 (aPk q d)]) K):=by
 refine Q6 rfl rfl (Qj h.wk) (by rw[X78];decide) ?_
 obtain ⟨h1,h2⟩:=h.mm.new_park h.hk d
 rw[List.set_set,h.ew] at h1
 rw[h.ew] at h2
 exact hk _ _ ⟨h1,h.kl,(h2.fix _ rfl).trans h.ew,(h2.fix _ rfl).trans h.ec,h.ex.trans h2⟩ h2
theorem wpa_newwake (h:WM q L k jw jc pl0 σ0 pl σ x) {P:Program} {K:AV→Kx.St→Prop} {d:Tw} (hk:∀pl' σ',WM q L k jw jc pl0 σ0 pl' σ' ({ x.1 with wake:=some d },x.2)→Ext pl pl' σ σ'→act (K (.v undef) σ')):act (EF.awp P (.st 1) [.ref jw 0 18,.ref σ.length 0 0] (σ++[.obj 0 (aTw q d [.v (.bool d.looks)])]) K):=by
 refine Q6 rfl rfl (Qj h.wk) (by rw[X78];decide) ?_
 obtain ⟨h1,h2⟩:=h.mm.new_wake h.hk d
 rw[List.set_set,h.ew] at h1
 rw[h.ew] at h2
 exact hk _ _ ⟨h1,h.kl,(h2.fix _ rfl).trans h.ew,(h2.fix _ rfl).trans h.ec,h.ex.trans h2⟩ h2
theorem wpa_newnap (h:WM q L k jw jc pl0 σ0 pl σ x) {P:Program} {K:AV→Kx.St→Prop} {d:Tw} (hk:∀pl' σ',WM q L k jw jc pl0 σ0 pl' σ' ({ x.1 with nap:=some d },x.2)→Ext pl pl' σ σ'→act (K (.v undef) σ')):act (EF.awp P (.st 1) [.ref jw 0 19,.ref σ.length 0 0] (σ++[.obj 0 (aTw q d [])]) K):=by
 refine Q6 rfl rfl (Qj h.wk) (by rw[X78];decide) ?_
 obtain ⟨h1,h2⟩:=h.mm.new_nap h.hk d
 rw[List.set_set,h.ew] at h1
 rw[h.ew] at h2
 exact hk _ _ ⟨h1,h.kl,(h2.fix _ rfl).trans h.ew,(h2.fix _ rfl).trans h.ec,h.ex.trans h2⟩ h2
theorem X29 (h:WM q L k jw jc pl0 σ0 pl σ x):FnG Tryz.prog 154 [.ref jw 0 0,.ref jc 0 0] σ fun _ σ'=>∃pl',WM q L k jw jc pl0 σ0 pl' σ' (x.1.goes,x.2):=by
 refine Q2 X44 mixed rfl ?_
 simp only[Z7]
 push_cast (maxSteps:=999999) -implicitDefEqProofs (disch:=omega)
 refine Qd h rfl rfl (by decide) (wst2 _ _ _ _) ⟨rfl,rfl,rfl,rfl,rfl⟩ ?_
 intro σ1 h1 X1
 push_cast (maxSteps:=999999) -implicitDefEqProofs (disch:=omega)
 refine Qd h1 rfl rfl (by decide) (wst1 _ _ _ _) ⟨rfl,rfl,rfl,rfl,rfl⟩ ?_
 intro σ2 h2 X2
 have hw:=h2.wk
 push_cast (maxSteps:=999999) -implicitDefEqProofs (disch:=omega)[hw]
 refine Q0 h2.Plan_a ?_
 rintro a σ' ⟨rfl,hs⟩
 rw[hs];clear hs
 push_cast (maxSteps:=999999) -implicitDefEqProofs (disch:=omega)[hw]
 refine Q0 (dq_Pop_a q σ2 x.1.own x.1.tail) ?_
 rintro a σ' ⟨rfl,rfl⟩
 push_cast (maxSteps:=999999) -implicitDefEqProofs (disch:=omega)
 refine J10 h2 (.inl rfl) ?_
 intro pl3 σ3 h3 X3
 push_cast (maxSteps:=999999) -implicitDefEqProofs (disch:=omega)
 exact ⟨_,h3⟩
theorem ZH (h:WM q L k jw jc pl0 σ0 pl σ x) (id:Int) (th:Th):FnG Tryz.prog 162 [.ref jw 0 0,.ref jc 0 0,.v (.int .i64 id),aTh jw th] σ fun _ σ'=>∃pl',WM q L k jw jc pl0 σ0 pl' σ' (x.1.pushes id th,x.2):=by
 refine Q2 XC mixed rfl ?_
 simp only[Q51]
 have hw:=h.wk
 push_cast (maxSteps:=999999) -implicitDefEqProofs (disch:=omega)[hw]
 refine Q0 h.Plan_a ?_
 rintro a σ' ⟨rfl,hs⟩
 rw[hs];clear hs
 push_cast (maxSteps:=999999) -implicitDefEqProofs (disch:=omega)[hw]
 refine Q0 (dq_Push_a q σ x.1.own x.1.tail id) ?_
 rintro a σ' ⟨rfl,rfl⟩
 push_cast (maxSteps:=999999) -implicitDefEqProofs (disch:=omega)
 refine J10 h (.inl rfl) ?_
 intro pl1 σ1 h1 X1
 push_cast (maxSteps:=999999) -implicitDefEqProofs (disch:=omega)
 refine Qd h1 (aTh_one jw th).1 (aTh_one jw th).2 (by decide) (w':={ x.1 with dq:=some (dqPush x.1.own x.1.tail id),th:=th }) (by rw[←h1.ew];rfl) ⟨rfl,rfl,rfl,rfl,rfl⟩ ?_
 intro σ2 h2 X2
 push_cast (maxSteps:=999999) -implicitDefEqProofs (disch:=omega)
 refine Qd h2 rfl rfl (by decide) (wst1 _ _ _ _) ⟨rfl,rfl,rfl,rfl,rfl⟩ ?_
 intro σ3 h3 X3
 push_cast (maxSteps:=999999) -implicitDefEqProofs (disch:=omega)
 exact ⟨_,h3⟩
theorem G7 (h:WM q L k jw jc pl0 σ0 pl σ x):FnG Tryz.prog 176 [.ref jw 0 0,.ref jc 0 0] σ fun _ σ'=>∃pl',WM q L k jw jc pl0 σ0 pl' σ' (dueF x):=by
 refine Q2 X96 mixed rfl ?_
 simp only[ZY]
 push_cast (maxSteps:=999999) -implicitDefEqProofs (disch:=omega)
 refine Q0 h.frame_a ?_
 rintro a σ1 ⟨⟨i,off,rfl,hf⟩,h1,X1⟩
 push_cast (maxSteps:=999999) -implicitDefEqProofs (disch:=omega)
 refine Q35 h1 hf (f':={ x.2.at x.1.holds with due:=true }) (J28 h1.mm _) rfl rfl (by decide) rfl ?_
 intro σ2 h2 hf2
 push_cast (maxSteps:=999999) -implicitDefEqProofs (disch:=omega)
 refine Qd h2 rfl rfl (by decide) (wst1 _ _ _ _) ⟨rfl,rfl,rfl,rfl,rfl⟩ ?_
 intro σ3 h3 X3
 push_cast (maxSteps:=999999) -implicitDefEqProofs (disch:=omega)
 exact ⟨_,h3⟩
theorem Q08 (h:WM q L k jw jc pl0 σ0 pl σ x) (id:Int):FnG Tryz.prog 164 [.ref jc 0 0,.v (.int .i64 id)] σ fun a σ'=>a=.agg (aRr q (ringF x.2 id))∧WM q L k jw jc pl0 σ0 pl σ' x∧Ext pl pl σ σ':=by
 refine Q2 J05 mixed rfl ?_
 simp only[X12]
 have hs:∀r,setAtA [AV.v (.int .i64 0),AV.v (.int .i64 0),AV.v (.int .i64 0),AV.v (.int .i64 0),AV.v (.int .i64 0),AV.v (.int .i64 0)] 0 (aRr q r)=aRr q r:=fun r=>rfl
 push_cast (maxSteps:=999999) -implicitDefEqProofs (disch:=omega)
 refine Qb ?_
 push_cast (maxSteps:=999999) -implicitDefEqProofs (disch:=omega)
 refine Q0 (h.app _).Plan_a ?_
 rintro a σ' ⟨rfl,hs⟩
 rw[hs];clear hs
 push_cast (maxSteps:=999999) -implicitDefEqProofs (disch:=omega)
 refine Q0 ((h.app _).at_a id) ?_
 rintro a σ1 ⟨⟨i,off,rfl,hf⟩,h1,X1⟩
 obtain ⟨cs,hcs,g,g8,g19,_⟩:=hf.get
 have g18:=g 18 _ rfl
 have hz:σ1[σ.length]?=some (.obj 0 [AV.v (.int .i64 0),AV.v (.int .i64 0),AV.v (.int .i64 0),AV.v (.int .i64 0),AV.v (.int .i64 0),AV.v (.int .i64 0)]):=by
  rw[X1.keep σ.length (by simp) fun ro=>by have:=h.mm.lt ro;omega]
  exact Qc _ _
 push_cast (maxSteps:=999999) -implicitDefEqProofs (disch:=omega)[hcs,g18]
 refine Q0 (ring_New_a q σ1 id (x.2.at id).serial) ?_
 rintro a σ' ⟨rfl,hs'⟩
 rw[hs'];clear hs'
 push_cast (maxSteps:=999999) -implicitDefEqProofs (disch:=omega)
 refine Q8 (cs:=[AV.v (.int .i64 0),.v (.int .i64 0),.v (.int .i64 0),.v (.int .i64 0),.v (.int .i64 0),.v (.int .i64 0)]) rfl rfl hz (by simp) ?_
 rw[hs]
 have hz2:=Qa (o:=Res.obj 0 (aRr q ⟨id,(x.2.at id).serial⟩)) hz
 push_cast (maxSteps:=999999) -implicitDefEqProofs (disch:=omega)[hz2]
 have hlr:∀ro,pl.p ro≠σ.length:=fun ro=>by have:=h.mm.lt ro;omega
 have hm1:=h1.mm
 refine ⟨rfl,⟨⟨fun ro r er=>?_,hm1.inj,hm1.sd,fun ro=>by have:=hm1.lt ro;simpa using this⟩,h.kl,h.ew,h.ec,?_⟩,?_⟩
 ·rw[List.getElem?_set_ne (hlr ro).symm];exact hm1.at_ ro r er
 ·have h0:=h.ex.len
  refine ⟨by have:=h1.ex.len;simpa using this,fun j hj hp=>?_,h1.ex.new,h1.ex.fix⟩
  rw[List.getElem?_set_ne (by omega)]
  exact h1.ex.keep j hj hp
 ·have h0:=X1.len
  simp only[List.length_append,List.length_singleton] at h0
  refine ⟨by simp;omega,fun j hj hp=>?_,fun _=>.inl rfl,fun _ _=>rfl⟩
  rw[List.getElem?_set_ne (by omega),X1.keep j (by simp;omega) hp,List.getElem?_append_left hj]
theorem WM.Note_a (h:WM q L k jw jc pl0 σ0 pl σ x) (hb:x.2.log.length≤1000000000) (e:Vt):FnG Tryz.prog 148 [.ref (pl.p .lo) 0 0,.agg (aVt e)] σ fun _ σ'=>∃pl',WM q L k jw jc pl0 σ0 pl' σ' (x.1,x.2.note e):=
 FnG.mono (log_Note_a h.mm hb e) fun _ σ' o=>by obtain ⟨pl',h',_⟩:=h.out o;exact ⟨pl',h'⟩
theorem Y03 (h:WM q L k jw jc pl0 σ0 pl σ x) (hb:x.2.log.length≤1000000000) (kd:Int):FnG Tryz.prog 166 [.ref jw 0 0,.ref jc 0 0,.v (.int .i64 kd)] σ fun _ σ'=>∃pl',WM q L k jw jc pl0 σ0 pl' σ' (noteF x kd):=by
 refine Q2 X46 mixed rfl ?_
 simp only[Z9]
 push_cast (maxSteps:=999999) -implicitDefEqProofs (disch:=omega)
 refine Q0 h.frame_a ?_
 rintro a σ1 ⟨⟨i,off,rfl,hf⟩,h1,X1⟩
 obtain ⟨cs,hcs,g,g8,g19,_⟩:=hf.get
 have g11:=g 11 _ rfl
 have g14:=g 14 _ rfl
 have g15:=g 15 _ rfl
 push_cast (maxSteps:=999999) -implicitDefEqProofs (disch:=omega)[hcs,g11,g14,g15]
 refine Q0 h1.Log_a ?_
 rintro a σ' ⟨rfl,hs⟩
 rw[hs];clear hs
 push_cast (maxSteps:=999999) -implicitDefEqProofs (disch:=omega)[hcs,g11,g14,g15]
 refine Q0 (h1.at_a (x.2.at x.1.holds).parent) ?_
 rintro a σ2 ⟨⟨i2,off2,rfl,hf2⟩,h2,X2⟩
 have hf1:=hf.ext X2 h2.mm rfl rfl
 obtain ⟨cs',hcs',g',_,_,_⟩:=hf1.get
 obtain ⟨cs2,hcs2,g2,_,_,_⟩:=hf2.get
 have k18:=g2 18 _ rfl
 have k14:=g' 14 _ rfl
 have k15:=g' 15 _ rfl
 have hb4:fillA [AV.v (.int .i64 0),AV.v (.int .i64 0),AV.v (.int .i64 0),AV.v (.int .i64 0)] [(0,1),(1,1),(2,1),(3,1)] [.v (.int .i64 kd),.v (.int .i64 (x.2.at (x.2.at x.1.holds).parent).serial),.v (.int .i64 (x.2.at x.1.holds).index),.v (.int .i64 (x.2.at x.1.holds).stage)]=some (aVt ⟨kd,(x.2.at (x.2.at x.1.holds).parent).serial,(x.2.at x.1.holds).index,(x.2.at x.1.holds).stage⟩):=by simp[fillA,AV.cells,Value.cells,setAtA,aVt]
 push_cast (maxSteps:=999999) -implicitDefEqProofs (disch:=omega)[hcs',hcs2,k18,k14,k15,hb4]
 refine Q5 h2 (h2.re.Note_a hb _) ?_
 intro a pl3 σ3 h3 X3
 push_cast (maxSteps:=999999) -implicitDefEqProofs (disch:=omega)
 exact ⟨_,h3⟩
theorem X30 (h:WM q L k jw jc pl0 σ0 pl σ x) (why ct:Int):FnG Tryz.prog 168 [.ref jw 0 0,.ref jc 0 0,.v (.int .i64 why),.v (.int .i64 ct)] σ fun _ σ'=>∃pl',WM q L k jw jc pl0 σ0 pl' σ' (checksF x why ct):=by
 refine Q2 XD mixed rfl ?_
 simp only[Q52]
 push_cast (maxSteps:=999999) -implicitDefEqProofs (disch:=omega)
 refine Q0 h.frame_a ?_
 rintro a σ1 ⟨⟨i,off,rfl,hf⟩,h1,X1⟩
 push_cast (maxSteps:=999999) -implicitDefEqProofs (disch:=omega)
 refine Qd h1 rfl rfl (by decide) (wst11 _ _ _ _) ⟨rfl,rfl,rfl,rfl,rfl⟩ ?_
 intro σ2 h2 X2
 push_cast (maxSteps:=999999) -implicitDefEqProofs (disch:=omega)
 refine Qd h2 rfl rfl (by decide) (wst1 _ _ _ _) ⟨rfl,rfl,rfl,rfl,rfl⟩ ?_
 intro σ3 h3 X3
 have hf3:=(hf.ext X2 h2.mm rfl rfl).ext X3 h3.mm rfl rfl
 obtain ⟨cs,hcs,g,_,_,_⟩:=hf3.get
 have g11:=g 11 _ rfl
 have g14:=g 14 _ rfl
 push_cast (maxSteps:=999999) -implicitDefEqProofs (disch:=omega)[hcs,g11,g14]
 refine Q0 (Q08 h3 (x.2.at x.1.holds).parent) ?_
 rintro a σ4 ⟨rfl,h4,X4⟩
 have hf4:=hf3.ext X4 h4.mm rfl rfl
 obtain ⟨cs',hcs',g',_,_,_⟩:=hf4.get
 have k14:=g' 14 _ rfl
 push_cast (maxSteps:=999999) -implicitDefEqProofs (disch:=omega)[hcs',k14]
 refine Q0 (cross_Look_a q σ4 (ringF x.2 (x.2.at x.1.holds).parent) (x.2.at x.1.holds).index ct) ?_
 rintro a σ' ⟨rfl,rfl⟩
 push_cast (maxSteps:=999999) -implicitDefEqProofs (disch:=omega)
 refine wpa_newright h4 ?_
 intro pl5 σ5 h5 X5
 push_cast (maxSteps:=999999) -implicitDefEqProofs (disch:=omega)
 exact ⟨_,h5⟩
theorem X97 (h:WM q L k jw jc pl0 σ0 pl σ x):FnG Tryz.prog 167 [.ref jw 0 0,.ref jc 0 0] σ fun _ σ'=>∃pl',WM q L k jw jc pl0 σ0 pl' σ' (looksOnF q x):=by
 refine Q2 X9 mixed rfl ?_
 simp only[Q34]
 push_cast (maxSteps:=999999) -implicitDefEqProofs (disch:=omega)
 refine Q0 h.Params_a ?_
 rintro a σ' ⟨rfl,hs⟩
 rw[hs];clear hs
 have hw:=h.wk
 have hfl:PF.av (.fld 6 none) [.agg (aPr q)]=some (.v (.bool q.lazy)):=rfl
 cases c:q.lazy with
 | true=>
  have e:looksOnF q x=({ x.1 with state:=10 },x.2):=by simp[looksOnF,c]
  rw[e]
  rw[c] at hfl
  push_cast (maxSteps:=999999) -implicitDefEqProofs (disch:=omega)[hfl]
  refine Qd h rfl rfl (by decide) (wst1 _ _ _ _) ⟨rfl,rfl,rfl,rfl,rfl⟩ ?_
  intro σ1 h1 X1
  push_cast (maxSteps:=999999) -implicitDefEqProofs (disch:=omega)
  exact ⟨_,h1⟩
 | false=>
  have e:looksOnF q x=checksF x 0 x.1.gStage:=by simp[looksOnF,c]
  rw[e]
  rw[c] at hfl
  push_cast (maxSteps:=999999) -implicitDefEqProofs (disch:=omega)[hfl,hw]
  refine Q5 h (X30 h.re 0 x.1.gStage) ?_
  intro a pl1 σ1 h1 X1
  push_cast (maxSteps:=999999) -implicitDefEqProofs (disch:=omega)
  exact ⟨_,h1⟩
theorem Y39 (h:WM q L k jw jc pl0 σ0 pl σ x):FnG Tryz.prog 169 [.ref jw 0 0,.ref jc 0 0] σ fun _ σ'=>∃pl',WM q L k jw jc pl0 σ0 pl' σ' (decideF q x):=by
 refine Q2 XE mixed rfl ?_
 simp only[Q53]
 push_cast (maxSteps:=999999) -implicitDefEqProofs (disch:=omega)
 refine Q0 h.frame_a ?_
 rintro a σ1 ⟨⟨i,off,rfl,hf⟩,h1,X1⟩
 have hw:=h1.wk
 obtain ⟨cs,hcs,g,_,_,_⟩:=hf.get
 have g14:=g 14 _ rfl
 have g16:=g 16 _ rfl
 have hfl:PF.av (.fld 5 none) [.agg (aPr q)]=some (.v (.bool q.fold)):=rfl
 cases c1:x.1.gWaits with
 | false=>
  have e:decideF q x=dueF x:=by simp[decideF,c1]
  rw[e]
  push_cast (maxSteps:=999999) -implicitDefEqProofs (disch:=omega)[hw,c1]
  refine Q5 h1 (G7 h1.re) ?_
  intro a pl2 σ2 h2 X2
  push_cast (maxSteps:=999999) -implicitDefEqProofs (disch:=omega)
  exact ⟨_,h2⟩
 | true=>
  by_cases c2:(x.2.at x.1.holds).index=0
  ·have e:decideF q x=dueF x:=by simp[decideF,c2]
   rw[e]
   rw[c2] at g14
   push_cast (maxSteps:=999999) -implicitDefEqProofs (disch:=omega)[hw,c1,hcs,g14]
   refine Q5 h1 (G7 h1.re) ?_
   intro a pl2 σ2 h2 X2
   push_cast (maxSteps:=999999) -implicitDefEqProofs (disch:=omega)
   exact ⟨_,h2⟩
  ·push_cast (maxSteps:=999999) -implicitDefEqProofs (disch:=omega)[hw,c1,hcs,g14,c2]
   refine Q0 h1.Params_a ?_
   rintro a σ' ⟨rfl,hs⟩
   rw[hs];clear hs
   cases c3:q.fold with
   | false=>
    have e:decideF q x=({ x.1 with state:=12 },x.2):=by simp[decideF,c1,c2,c3]
    rw[e]
    rw[c3] at hfl
    push_cast (maxSteps:=999999) -implicitDefEqProofs (disch:=omega)[hfl]
    refine Qd h1 rfl rfl (by decide) (wst1 _ _ _ _) ⟨rfl,rfl,rfl,rfl,rfl⟩ ?_
    intro σ2 h2 X2
    push_cast (maxSteps:=999999) -implicitDefEqProofs (disch:=omega)
    exact ⟨_,h2⟩
   | true=>
    rw[c3] at hfl
    push_cast (maxSteps:=999999) -implicitDefEqProofs (disch:=omega)[hfl,hw,hcs,g16]
    refine Q1 (Y75 _ _) ?_
    rintro a rfl
    by_cases c4:x.1.gStage < (x.2.at x.1.holds).fold
    ·have e:decideF q x=dueF (x.1,{ x.2 with folds:=w64 (x.2.folds+1) }):=by simp[decideF,c1,c2,c3,c4]
     rw[e]
     push_cast (maxSteps:=999999) -implicitDefEqProofs (disch:=omega)[aBool,c4]
     refine Q0 h1.Stats_a ?_
     rintro a σ' ⟨rfl,hs⟩
     rw[hs];clear hs
     have hc:=h1.c
     push_cast (maxSteps:=999999) -implicitDefEqProofs (disch:=omega)[hc]
     refine Y38 h1 rfl rfl (by decide) (cos18 _ _ _ _) rfl ?_
     intro σ2 h2 X2
     push_cast (maxSteps:=999999) -implicitDefEqProofs (disch:=omega)
     refine Q5 h2 (G7 h2.re) ?_
     intro a pl3 σ3 h3 X3
     push_cast (maxSteps:=999999) -implicitDefEqProofs (disch:=omega)
     exact ⟨_,h3⟩
    ·have e:decideF q x=({ x.1 with state:=12 },x.2):=by simp[decideF,c1,c2,c4]
     rw[e]
     push_cast (maxSteps:=999999) -implicitDefEqProofs (disch:=omega)[aBool,c4]
     refine Qd h1 rfl rfl (by decide) (wst1 _ _ _ _) ⟨rfl,rfl,rfl,rfl,rfl⟩ ?_
     intro σ2 h2 X2
     push_cast (maxSteps:=999999) -implicitDefEqProofs (disch:=omega)
     exact ⟨_,h2⟩
theorem Jd (h:WM q L k jw jc pl0 σ0 pl σ x):FnG Tryz.prog 172 [.ref jw 0 0,.ref jc 0 0] σ fun _ σ'=>∃pl',WM q L k jw jc pl0 σ0 pl' σ' (stopF x):=by
 refine Q2 X47 mixed rfl ?_
 simp only[Za]
 push_cast (maxSteps:=999999) -implicitDefEqProofs (disch:=omega)
 refine Q0 h.frame_a ?_
 rintro a σ1 ⟨⟨i,off,rfl,hf⟩,h1,X1⟩
 push_cast (maxSteps:=999999) -implicitDefEqProofs (disch:=omega)
 refine Q35 h1 hf (f':={ x.2.at x.1.holds with due:=true }) (J28 h1.mm _) rfl rfl (by decide) rfl ?_
 intro σ2 h2 hf2
 push_cast (maxSteps:=999999) -implicitDefEqProofs (disch:=omega)
 refine Q0 h2.Stats_a ?_
 rintro a σ' ⟨rfl,hs⟩
 rw[hs];clear hs
 have hc:=h2.c
 push_cast (maxSteps:=999999) -implicitDefEqProofs (disch:=omega)[hc]
 refine Y38 h2 rfl rfl (by decide) (cos16 _ _ _ _) rfl ?_
 intro σ3 h3 X3
 have hf3:=hf2.ext X3 h3.mm rfl rfl
 obtain ⟨cs,hcs,g,_,_,_⟩:=hf3.get
 have g11:=g 11 _ rfl
 have g14:=g 14 _ rfl
 have hw3:=h3.wk
 push_cast (maxSteps:=999999) -implicitDefEqProofs (disch:=omega)[hcs,g11,g14,hw3]
 refine Q0 (Q08 h3 (x.2.at x.1.holds).parent) ?_
 rintro a σ4 ⟨rfl,h4,X4⟩
 have hf4:=hf3.ext X4 h4.mm rfl rfl
 obtain ⟨cs',hcs',g',_,_,_⟩:=hf4.get
 have k14:=g' 14 _ rfl
 have hw4:=h4.wk
 push_cast (maxSteps:=999999) -implicitDefEqProofs (disch:=omega)[hcs',k14,hw4]
 refine Q0 (cross_Stop_a q σ4 _ (x.2.at x.1.holds).index x.1.gStage) ?_
 rintro a σ' ⟨rfl,rfl⟩
 push_cast (maxSteps:=999999) -implicitDefEqProofs (disch:=omega)
 refine wpa_newpark h4 ?_
 intro pl5 σ5 h5 X5
 have hw5:=h5.wk
 push_cast (maxSteps:=999999) -implicitDefEqProofs (disch:=omega)[hw5]
 refine Qd h5 rfl rfl (by decide) (wst7 _ _ _ _) ⟨rfl,rfl,rfl,rfl,rfl⟩ ?_
 intro σ6 h6 X6
 push_cast (maxSteps:=999999) -implicitDefEqProofs (disch:=omega)
 refine Qd h6 rfl rfl (by decide) (wst2 _ _ _ _) ⟨rfl,rfl,rfl,rfl,rfl⟩ ?_
 intro σ7 h7 X7
 push_cast (maxSteps:=999999) -implicitDefEqProofs (disch:=omega)
 refine Qd h7 rfl rfl (by decide) (wst1 _ _ _ _) ⟨rfl,rfl,rfl,rfl,rfl⟩ ?_
 intro σ8 h8 X8
 push_cast (maxSteps:=999999) -implicitDefEqProofs (disch:=omega)
 exact ⟨_,h8⟩
end
end Go.Proofs.YtelibaobkcokdaaGreat.Mx
