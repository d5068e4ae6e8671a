/- The machine: a worker's steps: joins, crossings. -/
import Derived.Test.YtelibaobkcokdaaGreatB2Mq
namespace Go.Proofs.YtelibaobkcokdaaGreat.Mx
set_option linter.unusedSectionVars false
set_option linter.unusedVariables false
set_option linter.unusedSimpArgs false
open Go Go.Kx Go.Proofs Go.Proofs.YtelibaobkcokdaaGreat
set_option maxRecDepth 8000
section
variable {q:Pm} {L:List Wk} {k jw jc:Nat} {pl0 pl:Pl} {σ0 σ:Kx.St} {x:WC}
theorem J36 {P:Program} {K:AV→Kx.St→Prop} {e:EF} {vs vs':List AV} {w:Nat} {cs:List AV} {fs:List Bool} (hr:AV.resL (σ++[.obj w cs]) cs=cs) (he:weak (σ++[.frz w cs]) fs vs=vs') (h:act (EF.awp P e vs' (σ++[.frz w cs]) K)):act (EF.awp P e vs (σ++[.obj w cs]) K):=by
 refine wpa_frz [σ.length] fs ?_
 have hf:Kx.freeze [σ.length] (σ++[Res.obj w cs])=σ++[Res.frz w cs]:=by simp[Kx.freeze,freeze1,hr]
 rw[hf,he]
 exact h
theorem w_joined_a (h:WM q L k jw jc pl0 σ0 pl σ x):FnG Tryz.prog 97 [.ref jw 0 0,.ref jc 0 0] σ fun _ σ'=>∃pl',WM q L k jw jc pl0 σ0 pl' σ' (joinedF q x):=by
 refine Qs X01 mixed rfl ?_
 simp only[Q82]
 have hw:=h.wk
 have ⟨b1,b2⟩:=Z04 h.mm.sd.ok h.mm.sd.ws x.1.holds
 push_cast (maxSteps:=999999) -implicitDefEqProofs (disch:=omega)[hw]
 refine Q0 h.Words_a ?_
 rintro a σ' ⟨rfl,hs⟩
 rw[hs];clear hs
 push_cast (maxSteps:=999999) -implicitDefEqProofs (disch:=omega)[hw]
 refine Q0 h.Plan_a ?_
 rintro a σ' ⟨rfl,hs⟩
 rw[hs];clear hs
 push_cast (maxSteps:=999999) -implicitDefEqProofs (disch:=omega)[hw]
 refine Qn (QZ h.mm.sd.ok _) ?_
 rintro a rfl
 push_cast (maxSteps:=999999) -implicitDefEqProofs (disch:=omega)[aInt,hw]
 refine Q0 (Y95 h.mm.words b1 (by omega)) ?_
 rintro a σ1 hs1
 obtain ⟨h1,X1⟩:=h.setW (Q96 _ _ _)
 rw[←hs1] at h1 X1
 clear hs1
 push_cast (maxSteps:=999999) -implicitDefEqProofs (disch:=omega)
 refine Q0 h1.frame_a ?_
 rintro a σ2 ⟨⟨i,off,rfl,hf⟩,h2,X2⟩
 push_cast (maxSteps:=999999) -implicitDefEqProofs (disch:=omega)
 refine Q68 h2 hf (f':={ (x.2.setW (stW x.2.ws (q.frame x.1.holds) 1)).at x.1.holds with dirty:=false }) (J55 h2.mm _) rfl rfl (by decide) rfl ?_
 intro σ3 h3 hf3
 push_cast (maxSteps:=999999) -implicitDefEqProofs (disch:=omega)
 refine QG h3 rfl rfl (by decide) (wst1 _ _ _ _) ⟨rfl,rfl,rfl,rfl,rfl⟩ ?_
 intro σ4 h4 X4
 push_cast (maxSteps:=999999) -implicitDefEqProofs (disch:=omega)
 exact ⟨_,h4⟩
theorem w_resume_a (h:WM q L k jw jc pl0 σ0 pl σ x):FnG Tryz.prog 100 [.ref jw 0 0,.ref jc 0 0] σ fun _ σ'=>∃pl',WM q L k jw jc pl0 σ0 pl' σ' (resumeF q x):=by
 refine Qs X03 mixed rfl ?_
 simp only[Q84]
 have hw:=h.wk
 have ⟨b1,b2⟩:=Z04 h.mm.sd.ok h.mm.sd.ws x.1.other
 push_cast (maxSteps:=999999) -implicitDefEqProofs (disch:=omega)[hw]
 refine Q0 h.Words_a ?_
 rintro a σ' ⟨rfl,hs⟩
 rw[hs];clear hs
 push_cast (maxSteps:=999999) -implicitDefEqProofs (disch:=omega)[hw]
 refine Q0 h.Plan_a ?_
 rintro a σ' ⟨rfl,hs⟩
 rw[hs];clear hs
 push_cast (maxSteps:=999999) -implicitDefEqProofs (disch:=omega)[hw]
 refine Qn (QZ h.mm.sd.ok _) ?_
 rintro a rfl
 push_cast (maxSteps:=999999) -implicitDefEqProofs (disch:=omega)[aInt,hw]
 refine Q0 (Y95 h.mm.words b1 (by omega)) ?_
 rintro a σ1 hs1
 obtain ⟨h1,X1⟩:=h.setW (Q96 _ _ _)
 rw[←hs1] at h1 X1
 clear hs1
 have hw1:=h1.wk
 push_cast (maxSteps:=999999) -implicitDefEqProofs (disch:=omega)[hw1]
 refine Q0 (h1.at_a x.1.other) ?_
 rintro a σ2 ⟨⟨i,off,rfl,hf⟩,h2,X2⟩
 push_cast (maxSteps:=999999) -implicitDefEqProofs (disch:=omega)
 refine Q68 h2 hf (f':={ (x.2.setW (stW x.2.ws (q.frame x.1.other) 1)).at x.1.other with dirty:=false }) (J55 h2.mm _) rfl rfl (by decide) rfl ?_
 intro σ3 h3 hf3
 have hw3:=h3.wk
 push_cast (maxSteps:=999999) -implicitDefEqProofs (disch:=omega)[hw3]
 refine Qz h3 (Z71 h3.re _) ?_
 intro a pl4 σ4 h4 X4
 push_cast (maxSteps:=999999) -implicitDefEqProofs (disch:=omega)
 exact ⟨_,h4⟩
theorem w_arrive_a (h:WM q L k jw jc pl0 σ0 pl σ x):FnG Tryz.prog 99 [.ref jw 0 0,.ref jc 0 0] σ fun _ σ'=>∃pl',WM q L k jw jc pl0 σ0 pl' σ' (arriveF q x):=by
 refine Qs X02 mixed rfl ?_
 simp only[Q83]
 have hw:=h.wk
 have ⟨b1,b2⟩:=Z04 h.mm.sd.ok h.mm.sd.ws x.1.other
 push_cast (maxSteps:=999999) -implicitDefEqProofs (disch:=omega)[hw]
 refine Q0 h.Words_a ?_
 rintro a σ' ⟨rfl,hs⟩
 rw[hs];clear hs
 push_cast (maxSteps:=999999) -implicitDefEqProofs (disch:=omega)[hw]
 refine Q0 h.Plan_a ?_
 rintro a σ' ⟨rfl,hs⟩
 rw[hs];clear hs
 push_cast (maxSteps:=999999) -implicitDefEqProofs (disch:=omega)[hw]
 refine Qn (QZ h.mm.sd.ok _) ?_
 rintro a rfl
 push_cast (maxSteps:=999999) -implicitDefEqProofs (disch:=omega)[aInt,hw]
 refine Q0 (Z54 h.mm.words b1 (by omega)) ?_
 rintro a σ1 ⟨rfl,hs1⟩
 obtain ⟨h1,X1⟩:=h.setW (ws:=(joinLeave x.2.ws (q.frame x.1.other)).2) (Xs _ _ _)
 rw[←hs1] at h1 X1
 clear hs1
 cases c:(joinLeave x.2.ws (q.frame x.1.other)).1 with
 | true=>
  have e:arriveF q x=({ x.1 with state:=8 },x.2.setW (joinLeave x.2.ws (q.frame x.1.other)).2):=by simp[arriveF,c]
  rw[e]
  push_cast (maxSteps:=999999) -implicitDefEqProofs (disch:=omega)[aBool]
  refine QG h1 rfl rfl (by decide) (wst1 _ _ _ _) ⟨rfl,rfl,rfl,rfl,rfl⟩ ?_
  intro σ2 h2 X2
  push_cast (maxSteps:=999999) -implicitDefEqProofs (disch:=omega)
  exact ⟨_,h2⟩
 | false=>
  have e:arriveF q x=(x.1.goes,x.2.setW (joinLeave x.2.ws (q.frame x.1.other)).2):=by simp[arriveF,c]
  rw[e]
  push_cast (maxSteps:=999999) -implicitDefEqProofs (disch:=omega)[aBool]
  refine Qz h1 (X57 h1.re) ?_
  intro a pl2 σ2 h2 X2
  push_cast (maxSteps:=999999) -implicitDefEqProofs (disch:=omega)
  exact ⟨_,h2⟩
theorem w_finish_a (h:WM q L k jw jc pl0 σ0 pl σ x):FnG Tryz.prog 182 [.ref jw 0 0,.ref jc 0 0] σ fun _ σ'=>∃pl',WM q L k jw jc pl0 σ0 pl' σ' (finishF q x):=by
 refine Qs X08 mixed rfl ?_
 simp only[Q89]
 have hw:=h.wk
 have ⟨b1,b2⟩:=Z04 h.mm.sd.ok h.mm.sd.ws x.1.other
 push_cast (maxSteps:=999999) -implicitDefEqProofs (disch:=omega)[hw]
 refine Q0 h.Words_a ?_
 rintro a σ' ⟨rfl,hs⟩
 rw[hs];clear hs
 push_cast (maxSteps:=999999) -implicitDefEqProofs (disch:=omega)[hw]
 refine Q0 h.Plan_a ?_
 rintro a σ' ⟨rfl,hs⟩
 rw[hs];clear hs
 push_cast (maxSteps:=999999) -implicitDefEqProofs (disch:=omega)[hw]
 refine Qn (QZ h.mm.sd.ok _) ?_
 rintro a rfl
 push_cast (maxSteps:=999999) -implicitDefEqProofs (disch:=omega)[aInt,hw]
 refine Q0 (Z54 h.mm.words b1 (by omega)) ?_
 rintro a σ1 ⟨rfl,hs1⟩
 obtain ⟨h1,X1⟩:=h.setW (ws:=(joinLeave x.2.ws (q.frame x.1.other)).2) (Xs _ _ _)
 rw[←hs1] at h1 X1
 clear hs1
 cases c:(joinLeave x.2.ws (q.frame x.1.other)).1 with
 | true=>
  have e:finishF q x=({ x.1 with holds:=x.1.other,state:=18 },x.2.setW (joinLeave x.2.ws (q.frame x.1.other)).2):=by simp[finishF,c]
  rw[e]
  have hw1:=h1.wk
  push_cast (maxSteps:=999999) -implicitDefEqProofs (disch:=omega)[aBool,hw1]
  refine QG h1 rfl rfl (by decide) (wst2 _ _ _ _) ⟨rfl,rfl,rfl,rfl,rfl⟩ ?_
  intro σ2 h2 X2
  push_cast (maxSteps:=999999) -implicitDefEqProofs (disch:=omega)
  refine QG h2 rfl rfl (by decide) (wst1 _ _ _ _) ⟨rfl,rfl,rfl,rfl,rfl⟩ ?_
  intro σ3 h3 X3
  push_cast (maxSteps:=999999) -implicitDefEqProofs (disch:=omega)
  exact ⟨_,h3⟩
 | false=>
  have e:finishF q x=(x.1.goes,x.2.setW (joinLeave x.2.ws (q.frame x.1.other)).2):=by simp[finishF,c]
  rw[e]
  push_cast (maxSteps:=999999) -implicitDefEqProofs (disch:=omega)[aBool]
  refine Qz h1 (X57 h1.re) ?_
  intro a pl2 σ2 h2 X2
  push_cast (maxSteps:=999999) -implicitDefEqProofs (disch:=omega)
  exact ⟨_,h2⟩
theorem w_spawn_a (h:WM q L k jw jc pl0 σ0 pl σ x):FnG Tryz.prog 98 [.ref jw 0 0,.ref jc 0 0] σ fun _ σ'=>∃pl',WM q L k jw jc pl0 σ0 pl' σ' (spawnF q x):=by
 refine Qs X35 mixed rfl ?_
 simp only[Za]
 have hw:=h.wk
 have ⟨b1,b2⟩:=Z04 h.mm.sd.ok h.mm.sd.ws x.1.holds
 push_cast (maxSteps:=999999) -implicitDefEqProofs (disch:=omega)
 refine Qw ?_
 push_cast (maxSteps:=999999) -implicitDefEqProofs (disch:=omega)[hw]
 refine Q0 h.Words_a ?_
 rintro a σ' ⟨rfl,hs⟩
 rw[hs];clear hs
 push_cast (maxSteps:=999999) -implicitDefEqProofs (disch:=omega)[hw]
 refine Q0 h.Plan_a ?_
 rintro a σ' ⟨rfl,hs⟩
 rw[hs];clear hs
 push_cast (maxSteps:=999999) -implicitDefEqProofs (disch:=omega)[hw]
 refine Qn (QZ h.mm.sd.ok _) ?_
 rintro a rfl
 push_cast (maxSteps:=999999) -implicitDefEqProofs (disch:=omega)[aInt,hw]
 refine Q0 (Y94 h.mm.words b1 (by omega)) ?_
 rintro a σ1 hs1
 obtain ⟨h1,X1⟩:=h.setW (Xs _ _ _)
 rw[←hs1] at h1 X1
 clear hs1
 have hw1:=h1.wk
 push_cast (maxSteps:=999999) -implicitDefEqProofs (disch:=omega)[hw1]
 refine QB ?_
 push_cast (maxSteps:=999999) -implicitDefEqProofs (disch:=omega)
 refine Qv rfl rfl (Qu _ _) (by simp) ?_
 push_cast (maxSteps:=999999) -implicitDefEqProofs (disch:=omega)
 have h2:=h1.app [Res.frz 0 [AV.v (.int .i64 x.1.other)]]
 have hw2:=QD (τ:=[Res.obj 0 [AV.v (.int .i64 x.1.other)]]) hw1
 have hw3:=h2.wk
 push_cast (maxSteps:=999999) -implicitDefEqProofs (disch:=omega)[hw2]
 refine J36 (fs:=[false,false,false,true]) (vs':=[.ref jw 0 0,.ref jc 0 0,.v (.int .i64 x.1.holds),aTh jw (.runs x.1.other)]) rfl ?_ ?_
 ·simp[weak,aTh,AV.res,AV.resL,hw3]
 refine Qz h2 (Z05 h2.re x.1.holds (.runs x.1.other)) ?_
 intro a pl3 σ3 h3 X3
 push_cast (maxSteps:=999999) -implicitDefEqProofs (disch:=omega)
 exact ⟨_,h3⟩
end
end Go.Proofs.YtelibaobkcokdaaGreat.Mx
