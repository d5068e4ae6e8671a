/- The machine: a worker's steps: joins, crossings. -/
import Derived.Test.YtelibaobkcokdaaGreatQU2Mq
namespace Go.Proofs.YtelibaobkcokdaaGreat.Mx
set_option linter.unusedSectionVars false
set_option linter.unusedVariables false
set_option linter.unusedSimpArgs false
open Go Go.Kx Go.Proofs Go.Proofs.YtelibaobkcokdaaGreat
set_option maxRecDepth 8000
section
variable {q:Pm} {L:List Wk} {k jw jc:Nat} {pl0 pl:Pl} {σ0 σ:Kx.St} {x:WC}
theorem J11 {P:Program} {K:AV→Kx.St→Prop} {e:EF} {vs vs':List AV} {w:Nat} {cs:List AV} {fs:List Bool} (hr:AV.resL (σ++[.obj w cs]) cs=cs) (he:weak (σ++[.frz w cs]) fs vs=vs') (h:act (EF.awp P e vs' (σ++[.frz w cs]) K)):act (EF.awp P e vs (σ++[.obj w cs]) K):=by
 refine wpa_frz [σ.length] fs ?_
 have hf:Kx.freeze [σ.length] (σ++[Res.obj w cs])=σ++[Res.frz w cs]:=by simp[Kx.freeze,freeze1,hr]
 rw[hf,he]
 exact h
theorem w_joined_a (h:WM q L k jw jc pl0 σ0 pl σ x):FnG Tryz.prog 97 [.ref jw 0 0,.ref jc 0 0] σ fun _ σ'=>∃pl',WM q L k jw jc pl0 σ0 pl' σ' (joinedF q x):=by
 refine Q2 Xz mixed rfl ?_
 simp only[Q48]
 have hw:=h.wk
 have ⟨b1,b2⟩:=ZC h.mm.sd.ok h.mm.sd.ws x.1.holds
 push_cast (maxSteps:=999999) -implicitDefEqProofs (disch:=omega)[hw]
 refine Q0 h.Words_a ?_
 rintro a σ' ⟨rfl,hs⟩
 rw[hs];clear hs
 push_cast (maxSteps:=999999) -implicitDefEqProofs (disch:=omega)[hw]
 refine Q0 h.Plan_a ?_
 rintro a σ' ⟨rfl,hs⟩
 rw[hs];clear hs
 push_cast (maxSteps:=999999) -implicitDefEqProofs (disch:=omega)[hw]
 refine Q1 (Ql h.mm.sd.ok _) ?_
 rintro a rfl
 push_cast (maxSteps:=999999) -implicitDefEqProofs (disch:=omega)[aInt,hw]
 refine Q0 (Y66 h.mm.words b1 (by omega)) ?_
 rintro a σ1 hs1
 obtain ⟨h1,X1⟩:=h.setW (Q62 _ _ _)
 rw[←hs1] at h1 X1
 clear hs1
 push_cast (maxSteps:=999999) -implicitDefEqProofs (disch:=omega)
 refine Q0 h1.frame_a ?_
 rintro a σ2 ⟨⟨i,off,rfl,hf⟩,h2,X2⟩
 push_cast (maxSteps:=999999) -implicitDefEqProofs (disch:=omega)
 refine Q35 h2 hf (f':={ (x.2.setW (stW x.2.ws (q.frame x.1.holds) 1)).at x.1.holds with dirty:=false }) (J28 h2.mm _) rfl rfl (by decide) rfl ?_
 intro σ3 h3 hf3
 push_cast (maxSteps:=999999) -implicitDefEqProofs (disch:=omega)
 refine Qd h3 rfl rfl (by decide) (wst1 _ _ _ _) ⟨rfl,rfl,rfl,rfl,rfl⟩ ?_
 intro σ4 h4 X4
 push_cast (maxSteps:=999999) -implicitDefEqProofs (disch:=omega)
 exact ⟨_,h4⟩
theorem w_resume_a (h:WM q L k jw jc pl0 σ0 pl σ x):FnG Tryz.prog 100 [.ref jw 0 0,.ref jc 0 0] σ fun _ σ'=>∃pl',WM q L k jw jc pl0 σ0 pl' σ' (resumeF q x):=by
 refine Q2 XB mixed rfl ?_
 simp only[Q50]
 have hw:=h.wk
 have ⟨b1,b2⟩:=ZC h.mm.sd.ok h.mm.sd.ws x.1.other
 push_cast (maxSteps:=999999) -implicitDefEqProofs (disch:=omega)[hw]
 refine Q0 h.Words_a ?_
 rintro a σ' ⟨rfl,hs⟩
 rw[hs];clear hs
 push_cast (maxSteps:=999999) -implicitDefEqProofs (disch:=omega)[hw]
 refine Q0 h.Plan_a ?_
 rintro a σ' ⟨rfl,hs⟩
 rw[hs];clear hs
 push_cast (maxSteps:=999999) -implicitDefEqProofs (disch:=omega)[hw]
 refine Q1 (Ql h.mm.sd.ok _) ?_
 rintro a rfl
 push_cast (maxSteps:=999999) -implicitDefEqProofs (disch:=omega)[aInt,hw]
 refine Q0 (Y66 h.mm.words b1 (by omega)) ?_
 rintro a σ1 hs1
 obtain ⟨h1,X1⟩:=h.setW (Q62 _ _ _)
 rw[←hs1] at h1 X1
 clear hs1
 have hw1:=h1.wk
 push_cast (maxSteps:=999999) -implicitDefEqProofs (disch:=omega)[hw1]
 refine Q0 (h1.at_a x.1.other) ?_
 rintro a σ2 ⟨⟨i,off,rfl,hf⟩,h2,X2⟩
 push_cast (maxSteps:=999999) -implicitDefEqProofs (disch:=omega)
 refine Q35 h2 hf (f':={ (x.2.setW (stW x.2.ws (q.frame x.1.other) 1)).at x.1.other with dirty:=false }) (J28 h2.mm _) rfl rfl (by decide) rfl ?_
 intro σ3 h3 hf3
 have hw3:=h3.wk
 push_cast (maxSteps:=999999) -implicitDefEqProofs (disch:=omega)[hw3]
 refine Q5 h3 (Z46 h3.re _) ?_
 intro a pl4 σ4 h4 X4
 push_cast (maxSteps:=999999) -implicitDefEqProofs (disch:=omega)
 exact ⟨_,h4⟩
theorem w_arrive_a (h:WM q L k jw jc pl0 σ0 pl σ x):FnG Tryz.prog 99 [.ref jw 0 0,.ref jc 0 0] σ fun _ σ'=>∃pl',WM q L k jw jc pl0 σ0 pl' σ' (arriveF q x):=by
 refine Q2 XA mixed rfl ?_
 simp only[Q49]
 have hw:=h.wk
 have ⟨b1,b2⟩:=ZC h.mm.sd.ok h.mm.sd.ws x.1.other
 push_cast (maxSteps:=999999) -implicitDefEqProofs (disch:=omega)[hw]
 refine Q0 h.Words_a ?_
 rintro a σ' ⟨rfl,hs⟩
 rw[hs];clear hs
 push_cast (maxSteps:=999999) -implicitDefEqProofs (disch:=omega)[hw]
 refine Q0 h.Plan_a ?_
 rintro a σ' ⟨rfl,hs⟩
 rw[hs];clear hs
 push_cast (maxSteps:=999999) -implicitDefEqProofs (disch:=omega)[hw]
 refine Q1 (Ql h.mm.sd.ok _) ?_
 rintro a rfl
 push_cast (maxSteps:=999999) -implicitDefEqProofs (disch:=omega)[aInt,hw]
 refine Q0 (Z29 h.mm.words b1 (by omega)) ?_
 rintro a σ1 ⟨rfl,hs1⟩
 obtain ⟨h1,X1⟩:=h.setW (ws:=(joinLeave x.2.ws (q.frame x.1.other)).2) (Z93 _ _ _)
 rw[←hs1] at h1 X1
 clear hs1
 cases c:(joinLeave x.2.ws (q.frame x.1.other)).1 with
 | true=>
  have e:arriveF q x=({ x.1 with state:=8 },x.2.setW (joinLeave x.2.ws (q.frame x.1.other)).2):=by simp[arriveF,c]
  rw[e]
  push_cast (maxSteps:=999999) -implicitDefEqProofs (disch:=omega)[aBool]
  refine Qd h1 rfl rfl (by decide) (wst1 _ _ _ _) ⟨rfl,rfl,rfl,rfl,rfl⟩ ?_
  intro σ2 h2 X2
  push_cast (maxSteps:=999999) -implicitDefEqProofs (disch:=omega)
  exact ⟨_,h2⟩
 | false=>
  have e:arriveF q x=(x.1.goes,x.2.setW (joinLeave x.2.ws (q.frame x.1.other)).2):=by simp[arriveF,c]
  rw[e]
  push_cast (maxSteps:=999999) -implicitDefEqProofs (disch:=omega)[aBool]
  refine Q5 h1 (X29 h1.re) ?_
  intro a pl2 σ2 h2 X2
  push_cast (maxSteps:=999999) -implicitDefEqProofs (disch:=omega)
  exact ⟨_,h2⟩
theorem w_finish_a (h:WM q L k jw jc pl0 σ0 pl σ x):FnG Tryz.prog 182 [.ref jw 0 0,.ref jc 0 0] σ fun _ σ'=>∃pl',WM q L k jw jc pl0 σ0 pl' σ' (finishF q x):=by
 refine Q2 XG mixed rfl ?_
 simp only[Q55]
 have hw:=h.wk
 have ⟨b1,b2⟩:=ZC h.mm.sd.ok h.mm.sd.ws x.1.other
 push_cast (maxSteps:=999999) -implicitDefEqProofs (disch:=omega)[hw]
 refine Q0 h.Words_a ?_
 rintro a σ' ⟨rfl,hs⟩
 rw[hs];clear hs
 push_cast (maxSteps:=999999) -implicitDefEqProofs (disch:=omega)[hw]
 refine Q0 h.Plan_a ?_
 rintro a σ' ⟨rfl,hs⟩
 rw[hs];clear hs
 push_cast (maxSteps:=999999) -implicitDefEqProofs (disch:=omega)[hw]
 refine Q1 (Ql h.mm.sd.ok _) ?_
 rintro a rfl
 push_cast (maxSteps:=999999) -implicitDefEqProofs (disch:=omega)[aInt,hw]
 refine Q0 (Z29 h.mm.words b1 (by omega)) ?_
 rintro a σ1 ⟨rfl,hs1⟩
 obtain ⟨h1,X1⟩:=h.setW (ws:=(joinLeave x.2.ws (q.frame x.1.other)).2) (Z93 _ _ _)
 rw[←hs1] at h1 X1
 clear hs1
 cases c:(joinLeave x.2.ws (q.frame x.1.other)).1 with
 | true=>
  have e:finishF q x=({ x.1 with holds:=x.1.other,state:=18 },x.2.setW (joinLeave x.2.ws (q.frame x.1.other)).2):=by simp[finishF,c]
  rw[e]
  have hw1:=h1.wk
  push_cast (maxSteps:=999999) -implicitDefEqProofs (disch:=omega)[aBool,hw1]
  refine Qd h1 rfl rfl (by decide) (wst2 _ _ _ _) ⟨rfl,rfl,rfl,rfl,rfl⟩ ?_
  intro σ2 h2 X2
  push_cast (maxSteps:=999999) -implicitDefEqProofs (disch:=omega)
  refine Qd h2 rfl rfl (by decide) (wst1 _ _ _ _) ⟨rfl,rfl,rfl,rfl,rfl⟩ ?_
  intro σ3 h3 X3
  push_cast (maxSteps:=999999) -implicitDefEqProofs (disch:=omega)
  exact ⟨_,h3⟩
 | false=>
  have e:finishF q x=(x.1.goes,x.2.setW (joinLeave x.2.ws (q.frame x.1.other)).2):=by simp[finishF,c]
  rw[e]
  push_cast (maxSteps:=999999) -implicitDefEqProofs (disch:=omega)[aBool]
  refine Q5 h1 (X29 h1.re) ?_
  intro a pl2 σ2 h2 X2
  push_cast (maxSteps:=999999) -implicitDefEqProofs (disch:=omega)
  exact ⟨_,h2⟩
theorem w_spawn_a (h:WM q L k jw jc pl0 σ0 pl σ x):FnG Tryz.prog 98 [.ref jw 0 0,.ref jc 0 0] σ fun _ σ'=>∃pl',WM q L k jw jc pl0 σ0 pl' σ' (spawnF q x):=by
 refine Q2 X07 mixed rfl ?_
 simp only[Q78]
 have hw:=h.wk
 have ⟨b1,b2⟩:=ZC h.mm.sd.ok h.mm.sd.ws x.1.holds
 push_cast (maxSteps:=999999) -implicitDefEqProofs (disch:=omega)
 refine Q3 ?_
 push_cast (maxSteps:=999999) -implicitDefEqProofs (disch:=omega)[hw]
 refine Q0 h.Words_a ?_
 rintro a σ' ⟨rfl,hs⟩
 rw[hs];clear hs
 push_cast (maxSteps:=999999) -implicitDefEqProofs (disch:=omega)[hw]
 refine Q0 h.Plan_a ?_
 rintro a σ' ⟨rfl,hs⟩
 rw[hs];clear hs
 push_cast (maxSteps:=999999) -implicitDefEqProofs (disch:=omega)[hw]
 refine Q1 (Ql h.mm.sd.ok _) ?_
 rintro a rfl
 push_cast (maxSteps:=999999) -implicitDefEqProofs (disch:=omega)[aInt,hw]
 refine Q0 (Y65 h.mm.words b1 (by omega)) ?_
 rintro a σ1 hs1
 obtain ⟨h1,X1⟩:=h.setW (Z93 _ _ _)
 rw[←hs1] at h1 X1
 clear hs1
 have hw1:=h1.wk
 push_cast (maxSteps:=999999) -implicitDefEqProofs (disch:=omega)[hw1]
 refine Qb ?_
 push_cast (maxSteps:=999999) -implicitDefEqProofs (disch:=omega)
 refine Q6 rfl rfl (Qc _ _) (by simp) ?_
 push_cast (maxSteps:=999999) -implicitDefEqProofs (disch:=omega)
 have h2:=h1.app [Res.frz 0 [AV.v (.int .i64 x.1.other)]]
 have hw2:=Qj (τ:=[Res.obj 0 [AV.v (.int .i64 x.1.other)]]) hw1
 have hw3:=h2.wk
 push_cast (maxSteps:=999999) -implicitDefEqProofs (disch:=omega)[hw2]
 refine J11 (fs:=[false,false,false,true]) (vs':=[.ref jw 0 0,.ref jc 0 0,.v (.int .i64 x.1.holds),aTh jw (.runs x.1.other)]) rfl ?_ ?_
 ·simp[weak,aTh,AV.res,AV.resL,hw3]
 refine Q5 h2 (ZH h2.re x.1.holds (.runs x.1.other)) ?_
 intro a pl3 σ3 h3 X3
 push_cast (maxSteps:=999999) -implicitDefEqProofs (disch:=omega)
 exact ⟨_,h3⟩
end
end Go.Proofs.YtelibaobkcokdaaGreat.Mx
