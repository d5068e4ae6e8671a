/- The machine: a worker's steps: loops. The machine: a worker's steps: iterations start. The machine: a worker's steps: loops go on; other frames. The machine: instructions that turn to other frames, and stages. The machine: an instruction. -/
import Derived.Test.YtelibaobkcokdaaGreatQU2Mt
namespace Go.Proofs.YtelibaobkcokdaaGreat.Mx
set_option linter.unusedSectionVars false
set_option linter.unusedVariables false
set_option linter.unusedSimpArgs false
open Go Go.Kx Go.Proofs Go.Proofs.YtelibaobkcokdaaGreat
set_option maxRecDepth 8000
section
variable {q:Pm} {L:List Wk} {k jw jc:Nat} {pl0 pl:Pl} {σ0 σ:Kx.St} {x:WC}
theorem WM.Free_a (h:WM q L k jw jc pl0 σ0 pl σ x) (hb:x.2.back.length≤1000000000) (id:Int):FnG Tryz.prog 247 [.ref (pl.p .t) 0 0,.v (.int .i64 id)] σ fun _ σ'=>∃pl',WM q L k jw jc pl0 σ0 pl' σ' (x.1,x.2.free id):=
 FnG.mono (frame_Free_a h.mm hb id) fun _ σ' o=>by obtain ⟨pl',h',_⟩:=h.out o;exact ⟨pl',h'⟩
theorem G8 (h:WM q L k jw jc pl0 σ0 pl σ x) (hb:x.2.back.length≤1000000000) (f:Fm) (hr:f.regs.length=8):FnG Tryz.prog 254 [.ref jw 0 0,.ref jc 0 0,.agg (aFm f)] σ fun a σ'=>
  ∃pl',WM q L k jw jc pl0 σ0 pl' σ' (x.1,(makeF q x.2 f).2)∧Ext pl pl' σ σ'∧(match (makeF q x.2 f).1 with|none=>a=.tup [aInt 0,aBool false]|some id=>a=.tup [aInt id,aBool true]):=by
 refine Q2 X58 mixed rfl ?_
 simp only[Zl]
 push_cast (maxSteps:=999999) -implicitDefEqProofs (disch:=omega)
 refine Q3 ?_
 push_cast (maxSteps:=999999) -implicitDefEqProofs (disch:=omega)
 refine Q0 h.Frames_a ?_
 rintro a σ' ⟨rfl,hs⟩
 rw[hs];clear hs
 push_cast (maxSteps:=999999) -implicitDefEqProofs (disch:=omega)
 refine Q0 (Y74 h.mm hb f hr) ?_
 intro a σ1 H1
 cases e:x.2.make q f with
 | none=>
  rw[e] at H1
  obtain ⟨rfl,hs⟩:=H1
  rw[hs]
  have e1:makeF q x.2 f=(none,x.2.stop 5 1):=by simp[makeF,e]
  rw[e1]
  push_cast (maxSteps:=999999) -implicitDefEqProofs (disch:=omega)[aInt,aBool]
  refine Q5 h (h.re.Stop_a 5 1) ?_
  intro a pl1 σ2 h2 X2
  push_cast (maxSteps:=999999) -implicitDefEqProofs (disch:=omega)
  exact ⟨_,h2,X2⟩
 | some y=>
  obtain ⟨id,s'⟩:=y
  rw[e] at H1
  obtain ⟨rfl,o⟩:=H1
  obtain ⟨pl1,h1,X1⟩:=h.out o
  have e1:makeF q x.2 f=(some id,s'):=by simp[makeF,e]
  rw[e1]
  push_cast (maxSteps:=999999) -implicitDefEqProofs (disch:=omega)[aInt,aBool]
  exact ⟨_,h1,X1⟩
theorem w_next_a (h:WM q L k jw jc pl0 σ0 pl σ x) (loop:Int):FnG Tryz.prog 248 [.ref jw 0 0,.ref jc 0 0,.v (.int .i64 loop)] σ fun _ σ'=>∃pl',WM q L k jw jc pl0 σ0 pl' σ' (nextF x loop):=by
 refine Q2 X57 mixed rfl ?_
 simp only[Zk]
 push_cast (maxSteps:=999999) -implicitDefEqProofs (disch:=omega)
 refine Q3 ?_
 have hw:=h.wk
 push_cast (maxSteps:=999999) -implicitDefEqProofs (disch:=omega)[hw]
 refine Qb ?_
 push_cast (maxSteps:=999999) -implicitDefEqProofs (disch:=omega)
 refine Q6 rfl rfl (Qc _ _) (by simp) ?_
 push_cast (maxSteps:=999999) -implicitDefEqProofs (disch:=omega)
 have h1:=h.app [Res.obj 0 [AV.v (.int .i64 x.1.eRight)]]
 have hw1:=h1.wk
 have hz:=Qc σ (Res.obj 0 [AV.v (.int .i64 x.1.eRight)])
 by_cases c1:0 < x.1.eRight
 ·cases c2:x.1.eWoken with
  | true=>
   have e:nextF x loop=(x.1.pushes loop (.takes x.1.eRight),x.2):=if_pos ⟨c1,c2⟩
   rw[e]
   push_cast (maxSteps:=999999) -implicitDefEqProofs (disch:=omega)[hw1,hz,c1,c2]
   have h2:=h.app [Res.frz 0 [AV.v (.int .i64 x.1.eRight)]]
   have hw3:=h2.wk
   refine J11 (fs:=[false,false,false,true]) (vs':=[.ref jw 0 0,.ref jc 0 0,.v (.int .i64 loop),aTh jw (.takes x.1.eRight)]) rfl ?_ ?_
   ·simp[weak,aTh,AV.res,AV.resL,hw3]
   refine Q5 h2 (ZH h2.re loop (.takes x.1.eRight)) ?_
   intro a pl3 σ3 h3 X3
   push_cast (maxSteps:=999999) -implicitDefEqProofs (disch:=omega)
   exact ⟨_,h3⟩
  | false=>
   have e:nextF x loop=(x.1.takes x.2 x.1.eRight,x.2):=by simp[nextF,c1,c2]
   rw[e]
   push_cast (maxSteps:=999999) -implicitDefEqProofs (disch:=omega)[hw1,hz,c1,c2]
   refine Q5 h1 (X18 h1.re _) ?_
   intro a pl3 σ3 h3 X3
   push_cast (maxSteps:=999999) -implicitDefEqProofs (disch:=omega)
   exact ⟨_,h3⟩
 ·cases c2:x.1.eWoken with
  | true=>
   have e:nextF x loop=(x.1.takes x.2 loop,x.2):=by simp[nextF,c1,c2]
   rw[e]
   push_cast (maxSteps:=999999) -implicitDefEqProofs (disch:=omega)[hw1,hz,c1,c2]
   refine Q5 h1 (X18 h1.re loop) ?_
   intro a pl3 σ3 h3 X3
   push_cast (maxSteps:=999999) -implicitDefEqProofs (disch:=omega)
   exact ⟨_,h3⟩
  | false=>
   have e:nextF x loop=(x.1.goes,x.2):=by simp[nextF,c1,c2]
   rw[e]
   push_cast (maxSteps:=999999) -implicitDefEqProofs (disch:=omega)[hw1,hz,c1,c2]
   refine Q5 h1 (X29 h1.re) ?_
   intro a pl3 σ3 h3 X3
   push_cast (maxSteps:=999999) -implicitDefEqProofs (disch:=omega)
   exact ⟨_,h3⟩
theorem w_drop_a (h:WM q L k jw jc pl0 σ0 pl σ x) (hb:x.2.back.length≤1000000000):FnG Tryz.prog 181 [.ref jw 0 0,.ref jc 0 0] σ fun _ σ'=>∃pl',WM q L k jw jc pl0 σ0 pl' σ' (dropF q x):=by
 refine Q2 X49 mixed rfl ?_
 simp only[Zc]
 push_cast (maxSteps:=999999) -implicitDefEqProofs (disch:=omega)
 refine Q0 h.frame_a ?_
 rintro a σ1 ⟨⟨i,off,rfl,hf⟩,h1,X1⟩
 obtain ⟨cs,hcs,g,_,_,_⟩:=hf.get
 have g11:=g 11 _ rfl
 have hw1:=h1.wk
 push_cast (maxSteps:=999999) -implicitDefEqProofs (disch:=omega)[hcs,g11,hw1]
 refine Q0 h1.Frames_a ?_
 rintro a σ' ⟨rfl,hs⟩
 rw[hs];clear hs
 push_cast (maxSteps:=999999) -implicitDefEqProofs (disch:=omega)[hcs,g11,hw1]
 refine Q5 h1 (h1.re.Free_a hb x.1.holds) ?_
 intro a pl2 σ2 h2 X2
 push_cast (maxSteps:=999999) -implicitDefEqProofs (disch:=omega)
 refine Qd h2 rfl rfl (by decide) (wst2 _ _ _ _) ⟨rfl,rfl,rfl,rfl,rfl⟩ ?_
 intro σ3 h3 X3
 generalize hloop:(x.2.at x.1.holds).parent=loop
 have ⟨b1,b2⟩:=ZC h3.mm.sd.ok h3.mm.sd.ws loop
 have hfw:(x.2.free x.1.holds).ws=x.2.ws:=by unfold Cs.free;split<;>rfl
 push_cast (maxSteps:=999999) -implicitDefEqProofs (disch:=omega)
 refine Q0 h3.Words_a ?_
 rintro a σ' ⟨rfl,hs⟩
 rw[hs];clear hs
 push_cast (maxSteps:=999999) -implicitDefEqProofs (disch:=omega)[hloop]
 refine Q0 h3.Plan_a ?_
 rintro a σ' ⟨rfl,hs⟩
 rw[hs];clear hs
 push_cast (maxSteps:=999999) -implicitDefEqProofs (disch:=omega)[hloop]
 refine Q1 (Ql h3.mm.sd.ok _) ?_
 rintro a rfl
 push_cast (maxSteps:=999999) -implicitDefEqProofs (disch:=omega)[aInt,hloop]
 refine Q0 (Z29 h3.mm.words b1 (by omega)) ?_
 rintro a σ4 ⟨rfl,hs4⟩
 obtain ⟨h4,X4⟩:=h3.setW (ws:=(joinLeave (x.2.free x.1.holds).ws (q.frame loop)).2) (Z93 _ _ _)
 simp only at hs4
 rw[←hs4] at h4 X4
 clear hs4
 have hw4:=h4.wk
 unfold dropF
 simp only[hloop]
 cases c1:x.1.eHeld with
 | true=>
  cases c2:x.1.eBreaks with
  | true=>
   simp only[and_self,if_true]
   push_cast (maxSteps:=999999) -implicitDefEqProofs (disch:=omega)[aBool,hw4,c1,c2]
   refine Qd h4 rfl rfl (by decide) (wst7 _ _ _ _) ⟨rfl,rfl,rfl,rfl,rfl⟩ ?_
   intro σ5 h5 X5
   push_cast (maxSteps:=999999) -implicitDefEqProofs (disch:=omega)
   refine Qd h5 rfl rfl (by decide) (wst1 _ _ _ _) ⟨rfl,rfl,rfl,rfl,rfl⟩ ?_
   intro σ6 h6 X6
   push_cast (maxSteps:=999999) -implicitDefEqProofs (disch:=omega)
   exact ⟨_,by simpa only[c1,c2] using h6⟩
  | false=>
   simp only[Bool.false_eq_true,and_false,if_false,if_true]
   push_cast (maxSteps:=999999) -implicitDefEqProofs (disch:=omega)[aBool,hw4,c1,c2]
   refine Q5 h4 (J09 h4.re loop) ?_
   intro a pl5 σ5 h5 X5
   push_cast (maxSteps:=999999) -implicitDefEqProofs (disch:=omega)
   exact ⟨_,by simpa only[c1,c2] using h5⟩
 | false=>
  simp only[Bool.false_eq_true,false_and,if_false]
  cases c3:(joinLeave (x.2.free x.1.holds).ws (q.frame loop)).1 with
  | true=>
   have c3':(joinLeave x.2.ws (q.frame loop)).1=true:=by rw[←hfw];exact c3
   simp only[c3',if_true]
   push_cast (maxSteps:=999999) -implicitDefEqProofs (disch:=omega)[aBool,hw4,c1]
   refine Qd h4 rfl rfl (by decide) (wst2 _ _ _ _) ⟨rfl,rfl,rfl,rfl,rfl⟩ ?_
   intro σ5 h5 X5
   push_cast (maxSteps:=999999) -implicitDefEqProofs (disch:=omega)
   refine Qd h5 rfl rfl (by decide) (wst1 _ _ _ _) ⟨rfl,rfl,rfl,rfl,rfl⟩ ?_
   intro σ6 h6 X6
   push_cast (maxSteps:=999999) -implicitDefEqProofs (disch:=omega)
   exact ⟨_,by simpa only[c1] using h6⟩
  | false=>
   have c3':(joinLeave x.2.ws (q.frame loop)).1=false:=by rw[←hfw];exact c3
   simp only[c3',Bool.false_eq_true,if_false]
   push_cast (maxSteps:=999999) -implicitDefEqProofs (disch:=omega)[aBool,hw4,c1]
   refine Q5 h4 (w_next_a h4.re loop) ?_
   intro a pl5 σ5 h5 X5
   push_cast (maxSteps:=999999) -implicitDefEqProofs (disch:=omega)
   exact ⟨_,by simpa only[c1] using h5⟩
theorem w_complete_a (h:WM q L k jw jc pl0 σ0 pl σ x) (hb:x.2.back.length≤1000000000) (hb2:x.2.log.length≤1000000000):FnG Tryz.prog 183 [.ref jw 0 0,.ref jc 0 0] σ fun _ σ'=>∃pl',WM q L k jw jc pl0 σ0 pl' σ' (completeF x):=by
 refine Q2 Z78 mixed rfl ?_
 simp only[Q21]
 push_cast (maxSteps:=999999) -implicitDefEqProofs (disch:=omega)
 refine Q0 h.frame_a ?_
 rintro a σ1 ⟨⟨i,off,rfl,hf⟩,h1,X1⟩
 obtain ⟨cs,hcs,_,_,g19,_⟩:=hf.get
 push_cast (maxSteps:=999999) -implicitDefEqProofs (disch:=omega)[hcs,g19]
 refine Qb ?_
 have hs:∀A f,A.length=19→setAtA A 0 (aFm f)=aFm f:=fun A f hA=>Q07 hA
 push_cast (maxSteps:=999999) -implicitDefEqProofs (disch:=omega)
 refine Q8 (Q03 _) (Y36 _) (Qc _ _) (by simp) ?_
 rw[hs _ _ (by simp),Qq]
 have h2:=h1.app [Res.obj 0 (aFm (x.2.at x.1.holds))]
 have l2:=h1.lc (Res.obj 0 (aFm (x.2.at x.1.holds)))
 generalize hj:σ1.length=j at l2
 generalize σ1++[Res.obj 0 (aFm (x.2.at x.1.holds))]=σ2 at h2 l2
 have hl2:=l2.1
 have hb4:fillA [AV.v (.int .i64 0),AV.v (.int .i64 0),AV.v (.int .i64 0),AV.v (.int .i64 0)] [(0,1),(1,1),(2,1)] [.v (.int .i64 5),.v (.int .i64 (x.2.at x.1.holds).serial),.v (.int .i64 (x.2.at x.1.holds).started)]=some (aVt ⟨5,(x.2.at x.1.holds).serial,(x.2.at x.1.holds).started,0⟩):=by simp[fillA,AV.cells,Value.cells,setAtA,aVt]
 push_cast (maxSteps:=999999) -implicitDefEqProofs (disch:=omega)[hl2,hb4]
 refine Q0 h2.Log_a ?_
 rintro a σ' ⟨rfl,hs⟩
 rw[hs];clear hs
 push_cast (maxSteps:=999999) -implicitDefEqProofs (disch:=omega)[hl2,hb4]
 refine Q5 h2 (h2.re.Note_a hb2 _) ?_
 intro a pl3 σ3 h3 X3
 have l3:=l2.ext X3
 have hl3:=l3.1
 push_cast (maxSteps:=999999) -implicitDefEqProofs (disch:=omega)[hl3]
 refine Q0 (h3.re.at_a (x.2.at x.1.holds).parent) ?_
 rintro a σ4 ⟨⟨i4,off4,rfl,hf4⟩,h4,X4⟩
 have l4:=l3.ext X4
 have hl4:=l4.1
 push_cast (maxSteps:=999999) -implicitDefEqProofs (disch:=omega)[hl4]
 refine X28 h4 hf4 (J28 h1.mm x.1.holds) ?_
 intro σ5 h5r hf5
 have l5:=l3.ext h5r.ex
 have h5:=h3.tr h5r
 have hl5:=l5.1
 have hw5:=h5.wk
 push_cast (maxSteps:=999999) -implicitDefEqProofs (disch:=omega)[hl5,hw5]
 refine Q0 h5.Frames_a ?_
 rintro a σ' ⟨rfl,hs⟩
 rw[hs];clear hs
 push_cast (maxSteps:=999999) -implicitDefEqProofs (disch:=omega)[hl5,hw5]
 refine Q5 h5 (h5.re.Free_a (by unfold Cs.setFr;split<;>exact hb) x.1.holds) ?_
 intro a pl6 σ6 h6 X6
 have l6:=l5.ext X6
 have hl6:=l6.1
 push_cast (maxSteps:=999999) -implicitDefEqProofs (disch:=omega)[hl6]
 refine Q5 h6 (Z46 h6.re _) ?_
 intro a pl7 σ7 h7 X7
 push_cast (maxSteps:=999999) -implicitDefEqProofs (disch:=omega)
 exact ⟨_,h7⟩
end
section
variable {q:Pm} {L:List Wk} {k jw jc:Nat} {pl0 pl:Pl} {σ0 σ:Kx.St} {x:WC}
def Cs.Fresh (s:Cs):Prop:=s.back.Nodup∧(∀x∈s.back,0≤x∧s.held.getD x.toNat false=false)∧(0≤s.fresh∧s.fresh≤1000000)∧∀i:Nat,s.fresh < i→s.held.getD i false=false
theorem fresh_next {s:Cs} (hf:s.Fresh) {id:Int} {b:List Int} {f:Int} (e:nextF2 s.held s.back s.fresh=some (id,b,f)):0≤id∧s.held.getD id.toNat false=false:=by
 obtain ⟨h1,h2,⟨h3,h4⟩,h5⟩:=hf
 unfold nextF2 at e
 split at e
 ·rename_i x hx
  simp only[Option.some.injEq,Prod.mk.injEq] at e
  obtain ⟨rfl,_,_⟩:=e
  exact h2 x (List.mem_of_getLast? hx)
 ·have ew:w64 (s.fresh+1)=s.fresh+1:=Q97 (by omega) (by omega)
  rw[ew] at e
  split at e
  ·cases e
  ·simp only[Option.some.injEq,Prod.mk.injEq] at e
   obtain ⟨rfl,_,_⟩:=e
   exact ⟨by omega,h5 _ (by omega)⟩
theorem J12 {s s':Cs} {f:Fm} {id:Int} (M:MM q pl σ L s) (hF:s.Fresh) (e:makeF q s f=(some id,s')) {j:Int} (hj:s.isHeld j=true):s'.isHeld j=true∧s'.fr[j.toNat]?=s.fr[j.toNat]?:=by
 unfold makeF at e
 cases e1:s.make q f with
 | none=>rw[e1] at e;simp at e
 | some y=>
  obtain ⟨i,s2⟩:=y
  rw[e1] at e
  simp only[Prod.mk.injEq,Option.some.injEq] at e
  obtain ⟨rfl,rfl⟩:=e
  unfold Cs.make at e1
  rw[take_eq] at e1
  cases e2:takeF2 s.held s.back s.fresh s.peak with
  | none=>rw[e2] at e1;simp at e1
  | some z=>
   obtain ⟨i3,l3,b3,f3,p3⟩:=z
   rw[e2] at e1
   simp only[Option.map_some,Option.some.injEq,Prod.mk.injEq] at e1
   obtain ⟨rfl,rfl⟩:=e1
   obtain ⟨_,_,_,rfl⟩:=M.took e2
   have hji:j.toNat≠i3.toNat:=by
    unfold takeF2 at e2
    cases e3:nextF2 s.held s.back s.fresh with
    | none=>rw[e3] at e2;cases e2
    | some z=>
     obtain ⟨i4,b4,f4⟩:=z
     rw[e3] at e2
     simp only[Option.some.injEq,Prod.mk.injEq] at e2
     obtain ⟨rfl,_⟩:=e2
     have h1:=(fresh_next hF e3).2
     have h2:=(J99 (Q22 ▸ hj)).2.2
     intro h
     rw[←h,List.getD_eq_getElem?_getD,h2] at h1
     cases h1
   refine ⟨?_,List.getElem?_set_ne (Ne.symm hji)⟩
   rw[Q22] at hj ⊢
   unfold heldL at hj ⊢
   simp only[List.length_set] at hj ⊢
   rw[Bool.and_eq_true] at hj ⊢
   refine ⟨hj.1,?_⟩
   rw[List.getD_eq_getElem?_getD,List.getElem?_set_ne (Ne.symm hji),←List.getD_eq_getElem?_getD]
   exact hj.2
theorem WM.loc (h:WM q L k jw jc pl0 σ0 pl σ x) {i:Nat} (hi:∀ro,pl.p ro≠i) (hn:σ0.length≤i) (r:Res):WM q L k jw jc pl0 σ0 pl (σ.set i r) x:=by
 have hm:=h.mm
 refine ⟨⟨fun ro r er=>?_,hm.inj,hm.sd,fun ro=>by have:=hm.lt ro;simpa using this⟩,h.kl,h.ew,h.ec,by simpa using h.ex.len,fun j hj hp=>?_,h.ex.new,h.ex.fix⟩
 ·rw[List.getElem?_set_ne (hi ro).symm];exact hm.at_ ro r er
 ·rw[List.getElem?_set_ne (by omega)];exact h.ex.keep j hj hp
theorem wpa_stg (h:WM q L k jw jc pl0 σ0 pl σ x) {pl1:Pl} {σ1:Kx.St} {x1:WC} {P:Program} {K:AV→Kx.St→Prop} {id:Int} {f f':Fm} {i off j:Nat} {a:AV} (hf:FP σ0.length pl1 σ1 x1.2 id f i off) (X:Ext pl1 pl σ1 σ)
  (hh:x1.2.isHeld id=true→x.2.isHeld id=true∧x.2.fr[id.toNat]?=x1.2.fr[id.toNat]?) (hr:f'.regs.length=8) (ha:a.cells=[a]) (h1:a.one=true) (hj:j < 19) (hs:(aFm f).set j a=aFm f')
  (hk:∀σ',WM q L k jw jc pl0 σ0 pl σ' (x.1,x.2.setIf (x1.2.isHeld id) id f')→(∃cs t,σ'[i]?=some (.obj 0 cs)∧cs.drop off=aFm f'++t∧off+19≤cs.length)→(x1.2.isHeld id=true→FP σ0.length pl σ' (x.2.setFr id f') id f' i off)→(x1.2.isHeld id=false→(∀ro,pl.p ro≠i)∧σ0.length≤i)→act (K (.v undef) σ')):
  act (EF.awp P (.st 1) [.ref i 0 (off+j),a] σ K):=by
 cases c:x1.2.isHeld id with
 | true=>
  obtain ⟨h2,h3⟩:=hh c
  have hF:FP σ0.length pl σ x.2 id f i off:=by
   rcases hf.wh with ⟨w1,w2,w3,w4⟩|⟨w1,_⟩
   ·have M4:x.2.fr[id.toNat]?=some f:=h3.trans w4
    refine ⟨⟨_,_,by rw[w2,←X.fix _ rfl];exact h.mm.fl,by rw[w3];exact QH Q03 M4,?_⟩,.inl ⟨h2,by rw[w2,X.fix _ rfl],w3,M4⟩⟩
    rw[fr_len];have:=Qe M4;omega
   ·rw[c] at w1;cases w1
  refine Q35 h hF hr ha h1 hj hs ?_
  intro σ' h' hF'
  exact hk σ' (by rw[c];exact h') hF'.cs (fun _=>hF') (fun e=>by rw[c] at e;cases e)
 | false=>
  rcases hf.wh with ⟨w1,_⟩|⟨_,w2,w3⟩
  ·rw[c] at w1;cases w1
  ·obtain ⟨cs,t,e1,e2,e3⟩:=hf.cs
   have e1':σ[i]?=some (.obj 0 cs):=by rw[X.keep i (Qe e1) w2];exact e1
   have hi:∀ro,pl.p ro≠i:=fun ro=>by
    rcases X.new ro with e|e
    ·rw[e];exact w2 ro
    ·have:=Qe e1;omega
   refine Q6 ha h1 e1' (by omega) ?_
   refine hk _ (by rw[c];exact h.loc hi w3 _) ⟨_,t,Qa e1',?_,by simpa using e3⟩ (fun e=>by rw[c] at e;cases e) (fun _=>⟨hi,w3⟩)
   have hsp:cs=cs.take off++aFm f++t:=by rw[List.append_assoc,←e2,List.take_append_drop]
   rw[fm_set1 hj hs (cs.take off) t (by rw[List.length_take];omega) hsp,List.append_assoc,List.drop_append_of_le_length (by rw[List.length_take];omega),List.drop_of_length_le (by rw[List.length_take];omega),List.nil_append]
theorem w_start_a (h:WM q L k jw jc pl0 σ0 pl σ x) (hb:x.2.back.length≤1000000000) (hF:x.2.Fresh):FnG Tryz.prog 186 [.ref jw 0 0,.ref jc 0 0] σ fun _ σ'=>∃pl',WM q L k jw jc pl0 σ0 pl' σ' (startF q x):=by
 refine Q2 X13 mixed rfl ?_
 simp only[Q83]
 push_cast (maxSteps:=999999) -implicitDefEqProofs (disch:=omega)
 refine Q0 h.frame_a ?_
 rintro a σ1 ⟨⟨i,off,rfl,hf⟩,h1,X1⟩
 obtain ⟨cs,hcs,g,_,g19,_⟩:=hf.get
 have hw1:=h1.wk
 push_cast (maxSteps:=999999) -implicitDefEqProofs (disch:=omega)[hcs,g19,hw1]
 refine Q0 (frame_Iter_a σ1 (x.2.at x.1.holds) x.1.holds) ?_
 rintro a σ' ⟨rfl,hs⟩
 rw[hs];clear hs
 push_cast (maxSteps:=999999) -implicitDefEqProofs (disch:=omega)
 refine Q0 (G8 h1.re hb _ (J28 h1.mm x.1.holds)) ?_
 rintro a σ2 ⟨pl2,h2',X2,ha⟩
 have h2:=h1.tr h2'
 cases e:makeF q x.2 ⟨2,(x.2.at x.1.holds).fn,0,(x.2.at x.1.holds).regs,x.1.holds,false,false,(x.2.at x.1.holds).started,0,0,0,0⟩ with
 | mk o s'=>
  rw[e] at ha h2
  unfold startF
  simp only[e]
  cases o with
  | none=>
   simp only at ha
   subst ha
   push_cast (maxSteps:=999999) -implicitDefEqProofs (disch:=omega)[aInt,aBool]
   exact ⟨_,h2⟩
  | some id=>
   simp only at ha
   subst ha
   have hm:=fun hh=>J12 h1.mm hF e (j:=x.1.holds) hh
   have g17:σ2[i]?=some (.obj 0 cs)∨True:=.inr trivial
   obtain ⟨cs2,hcs2,k17⟩:∃cs2,σ2[i]?=some (.obj 0 cs2)∧cs2[off+17]?=some (.v (.int .i64 (x.2.at x.1.holds).started)):=by
    rcases hf.wh with ⟨w1,w2,w3,w4⟩|⟨w1,w2,w3⟩
    ·obtain ⟨m1,m2⟩:=hm w1
     have M4:=m2.trans w4
     refine ⟨_,by rw[w2,←X2.fix _ rfl];exact h2.mm.fl,?_⟩
     rw[←List.getElem?_drop,w3,QH Q03 M4,List.getElem?_append_left (by rw[Q03];decide)]
     rfl
    ·refine ⟨cs,by rw[X2.keep i (Qe hcs) w2];exact hcs,g 17 _ rfl⟩
   push_cast (maxSteps:=999999) -implicitDefEqProofs (disch:=omega)[aInt,aBool,hcs2,k17]
   refine wpa_stg h2 hf X2 hm (f':={ x.2.at x.1.holds with started:=w64 ((x.2.at x.1.holds).started+1) }) (J28 h1.mm x.1.holds) rfl rfl (by decide) rfl ?_
   intro σ3 h3 _ _ _
   push_cast (maxSteps:=999999) -implicitDefEqProofs (disch:=omega)
   refine Qd h3 rfl rfl (by decide) (wst7 _ _ _ _) ⟨rfl,rfl,rfl,rfl,rfl⟩ ?_
   intro σ4 h4 X4
   push_cast (maxSteps:=999999) -implicitDefEqProofs (disch:=omega)
   refine Qd h4 rfl rfl (by decide) (wst1 _ _ _ _) ⟨rfl,rfl,rfl,rfl,rfl⟩ ?_
   intro σ5 h5 X5
   push_cast (maxSteps:=999999) -implicitDefEqProofs (disch:=omega)
   exact ⟨_,h5⟩
end
section
variable {q:Pm} {L:List Wk} {k jw jc:Nat} {pl0 pl:Pl} {σ0 σ:Kx.St} {x:WC}
theorem w_ahead_a (h:WM q L k jw jc pl0 σ0 pl σ x) {id:Int} {f:Fm} {i off:Nat} (hf:FP σ0.length pl σ x.2 id f i off):FnG Tryz.prog 249 [.ref jc 0 0,.ref i 0 off] σ fun a σ'=>a=aInt (w64 (f.started - q.T))∧σ'=σ:=by
 refine Q2 J27 mixed rfl ?_
 simp only[X77]
 obtain ⟨cs,hcs,g,_,_,_⟩:=hf.get
 have g17:=g 17 _ rfl
 have hfl:PF.av (.fld 1 none) [.agg (aPr q)]=some (.v (.int .i64 q.T)):=rfl
 push_cast (maxSteps:=999999) -implicitDefEqProofs (disch:=omega)[hcs,g17]
 refine Q0 h.Params_a ?_
 rintro a σ' ⟨rfl,hs⟩
 rw[hs];clear hs
 push_cast (maxSteps:=999999) -implicitDefEqProofs (disch:=omega)[hcs,g17,hfl,aInt]
 exact trivial
theorem w_loop_a (h:WM q L k jw jc pl0 σ0 pl σ x) (hb:x.2.back.length≤1000000000) (hF:x.2.Fresh):FnG Tryz.prog 184 [.ref jw 0 0,.ref jc 0 0] σ fun _ σ'=>∃pl',WM q L k jw jc pl0 σ0 pl' σ' (loopF q x):=by
 refine Q2 X50 mixed rfl ?_
 simp only[Zd]
 push_cast (maxSteps:=999999) -implicitDefEqProofs (disch:=omega)
 refine Q0 h.frame_a ?_
 rintro a σ1 ⟨⟨i,off,rfl,hf⟩,h1,X1⟩
 push_cast (maxSteps:=999999) -implicitDefEqProofs (disch:=omega)
 refine Q0 (w_ahead_a h1 hf) ?_
 rintro a σ' ⟨rfl,hs⟩
 rw[hs];clear hs
 have hw1:=h1.wk
 push_cast (maxSteps:=999999) -implicitDefEqProofs (disch:=omega)[aInt,hw1]
 refine Q0 (Q08 h1 x.1.holds) ?_
 rintro a σ2 ⟨rfl,h2,X2⟩
 push_cast (maxSteps:=999999) -implicitDefEqProofs (disch:=omega)
 refine Qb ?_
 push_cast (maxSteps:=999999) -implicitDefEqProofs (disch:=omega)
 have hs6:∀r,setAtA [AV.v (.int .i64 0),AV.v (.int .i64 0),AV.v (.int .i64 0),AV.v (.int .i64 0),AV.v (.int .i64 0),AV.v (.int .i64 0)] 0 (aRr q r)=aRr q r:=fun r=>rfl
 refine Q8 (cs:=[AV.v (.int .i64 0),.v (.int .i64 0),.v (.int .i64 0),.v (.int .i64 0),.v (.int .i64 0),.v (.int .i64 0)]) rfl rfl (Qc _ _) (by simp) ?_
 rw[hs6,Qq]
 have h3:=h2.app [Res.obj 0 (aRr q (ringF x.2 x.1.holds))]
 have l3:=h2.lc (Res.obj 0 (aRr q (ringF x.2 x.1.holds)))
 generalize hj:σ2.length=j at l3
 generalize σ2++[Res.obj 0 (aRr q (ringF x.2 x.1.holds))]=σ3 at h3 l3
 have hl3:=l3.1
 unfold loopF
 simp only
 by_cases c1:w64 ((x.2.at x.1.holds).started - q.T) < 0
 ·simp only[c1,if_true]
  push_cast (maxSteps:=999999) -implicitDefEqProofs (disch:=omega)[c1]
  refine Q5 h3 (w_start_a h3.re hb hF) ?_
  intro a pl4 σ4 h4 X4
  push_cast (maxSteps:=999999) -implicitDefEqProofs (disch:=omega)
  exact ⟨_,h4⟩
 ·simp only[c1,if_false]
  push_cast (maxSteps:=999999) -implicitDefEqProofs (disch:=omega)[c1,hl3]
  refine Q0 h3.Words_a ?_
  rintro a σ' ⟨rfl,hs⟩
  rw[hs];clear hs
  push_cast (maxSteps:=999999) -implicitDefEqProofs (disch:=omega)[hl3]
  refine Q0 (Y67 h3.mm.sd.ok h3.mm.words h3.mm.sd.ws _ _) ?_
  rintro a σ' ⟨rfl,hs⟩
  rw[hs];clear hs
  cases c2:endedR q (ringF x.2 x.1.holds) x.2.ws (w64 ((x.2.at x.1.holds).started - q.T)) with
  | true=>
   simp only[if_true]
   push_cast (maxSteps:=999999) -implicitDefEqProofs (disch:=omega)[aBool]
   refine Qd h3 rfl rfl (by decide) (wst1 _ _ _ _) ⟨rfl,rfl,rfl,rfl,rfl⟩ ?_
   intro σ4 h4 X4
   push_cast (maxSteps:=999999) -implicitDefEqProofs (disch:=omega)
   exact ⟨_,h4⟩
  | false=>
   simp only[Bool.false_eq_true,if_false]
   push_cast (maxSteps:=999999) -implicitDefEqProofs (disch:=omega)[aBool]
   refine Q0 h3.Stats_a ?_
   rintro a σ' ⟨rfl,hs⟩
   rw[hs];clear hs
   have hc:=h3.c
   push_cast (maxSteps:=999999) -implicitDefEqProofs (disch:=omega)[hc]
   refine Y38 h3 rfl rfl (by decide) (cos17 _ _ _ _) rfl ?_
   intro σ4 h4 X4
   have l4:=l3.ext X4
   have hl4:=l4.1
   push_cast (maxSteps:=999999) -implicitDefEqProofs (disch:=omega)[hl4]
   refine Q0 (Y89 q σ4 _ _) ?_
   rintro a σ' ⟨rfl,rfl⟩
   push_cast (maxSteps:=999999) -implicitDefEqProofs (disch:=omega)
   refine wpa_newnap h4 ?_
   intro pl5 σ5 h5 X5
   have hw5:=h5.wk
   push_cast (maxSteps:=999999) -implicitDefEqProofs (disch:=omega)[hw5]
   refine Qd h5 rfl rfl (by decide) (wst7 _ _ _ _) ⟨rfl,rfl,rfl,rfl,rfl⟩ ?_
   intro σ6 h6 X6
   push_cast (maxSteps:=999999) -implicitDefEqProofs (disch:=omega)
   refine Qd h6 rfl rfl (by decide) (wst2 _ _ _ _) ⟨rfl,rfl,rfl,rfl,rfl⟩ ?_
   intro σ7 h7 X7
   push_cast (maxSteps:=999999) -implicitDefEqProofs (disch:=omega)
   refine Qd h7 rfl rfl (by decide) (wst1 _ _ _ _) ⟨rfl,rfl,rfl,rfl,rfl⟩ ?_
   intro σ8 h8 X8
   push_cast (maxSteps:=999999) -implicitDefEqProofs (disch:=omega)
   exact ⟨_,h8⟩
theorem w_count_a (h:WM q L k jw jc pl0 σ0 pl σ x):FnG Tryz.prog 187 [.ref jw 0 0,.ref jc 0 0] σ fun _ σ'=>∃pl',WM q L k jw jc pl0 σ0 pl' σ' (countF q x):=by
 refine Q2 X14 mixed rfl ?_
 simp only[Q84]
 have hw:=h.wk
 push_cast (maxSteps:=999999) -implicitDefEqProofs (disch:=omega)[hw]
 refine Q0 (Q08 h x.1.holds) ?_
 rintro a σ1 ⟨rfl,h1,X1⟩
 have hw1:=h1.wk
 push_cast (maxSteps:=999999) -implicitDefEqProofs (disch:=omega)[hw1]
 refine Q0 h1.Words_a ?_
 rintro a σ' ⟨rfl,hs⟩
 rw[hs];clear hs
 push_cast (maxSteps:=999999) -implicitDefEqProofs (disch:=omega)[hw1]
 refine Q0 (h1.at_a x.1.other) ?_
 rintro a σ2 ⟨⟨i,off,rfl,hf⟩,h2,X2⟩
 obtain ⟨cs,hcs,g,_,_,_⟩:=hf.get
 have g14:=g 14 _ rfl
 have hw2:=h2.wk
 push_cast (maxSteps:=999999) -implicitDefEqProofs (disch:=omega)[hcs,g14,hw2]
 refine Q0 (JS h2.mm.sd.ok h2.mm.words h2.mm.sd.ws _ _ _) ?_
 rintro a σ3 hs3
 obtain ⟨h3,X3⟩:=h2.setW (Q62 _ _ _)
 rw[←hs3] at h3 X3
 clear hs3
 push_cast (maxSteps:=999999) -implicitDefEqProofs (disch:=omega)
 refine Qd h3 rfl rfl (by decide) (wst1 _ _ _ _) ⟨rfl,rfl,rfl,rfl,rfl⟩ ?_
 intro σ4 h4 X4
 push_cast (maxSteps:=999999) -implicitDefEqProofs (disch:=omega)
 exact ⟨_,h4⟩
theorem w_name_a (h:WM q L k jw jc pl0 σ0 pl σ x):FnG Tryz.prog 188 [.ref jw 0 0,.ref jc 0 0] σ fun _ σ'=>∃pl',WM q L k jw jc pl0 σ0 pl' σ' (nameF2 q x):=by
 refine Q2 X52 mixed rfl ?_
 simp only[Zf]
 have hw:=h.wk
 push_cast (maxSteps:=999999) -implicitDefEqProofs (disch:=omega)[hw]
 refine Q0 (Q08 h x.1.holds) ?_
 rintro a σ1 ⟨rfl,h1,X1⟩
 have hw1:=h1.wk
 push_cast (maxSteps:=999999) -implicitDefEqProofs (disch:=omega)[hw1]
 refine Q0 h1.Words_a ?_
 rintro a σ' ⟨rfl,hs⟩
 rw[hs];clear hs
 push_cast (maxSteps:=999999) -implicitDefEqProofs (disch:=omega)[hw1]
 refine Q0 (h1.at_a x.1.other) ?_
 rintro a σ2 ⟨⟨i,off,rfl,hf⟩,h2,X2⟩
 obtain ⟨cs,hcs,g,_,_,_⟩:=hf.get
 have g14:=g 14 _ rfl
 have hw2:=h2.wk
 push_cast (maxSteps:=999999) -implicitDefEqProofs (disch:=omega)[hcs,g14,hw2]
 refine Q0 (ring_Link_a h2.mm.sd.ok h2.mm.words h2.mm.sd.ws _ _ _) ?_
 rintro a σ3 hs3
 obtain ⟨h3,X3⟩:=h2.setW (Q62 _ _ _)
 rw[←hs3] at h3 X3
 clear hs3
 push_cast (maxSteps:=999999) -implicitDefEqProofs (disch:=omega)
 refine Qd h3 rfl rfl (by decide) (wst1 _ _ _ _) ⟨rfl,rfl,rfl,rfl,rfl⟩ ?_
 intro σ4 h4 X4
 push_cast (maxSteps:=999999) -implicitDefEqProofs (disch:=omega)
 exact ⟨_,h4⟩
theorem w_joins_a (h:WM q L k jw jc pl0 σ0 pl σ x) (hb:x.2.log.length+1≤1000000000):FnG Tryz.prog 189 [.ref jw 0 0,.ref jc 0 0] σ fun _ σ'=>∃pl',WM q L k jw jc pl0 σ0 pl' σ' (joinsF q x):=by
 refine Q2 X15 mixed rfl ?_
 simp only[Q85]
 have hw:=h.wk
 have ⟨b1,b2⟩:=ZC h.mm.sd.ok h.mm.sd.ws x.1.holds
 push_cast (maxSteps:=999999) -implicitDefEqProofs (disch:=omega)[hw]
 refine Q0 h.Words_a ?_
 rintro a σ' ⟨rfl,hs⟩
 rw[hs];clear hs
 push_cast (maxSteps:=999999) -implicitDefEqProofs (disch:=omega)[hw]
 refine Q0 h.Plan_a ?_
 rintro a σ' ⟨rfl,hs⟩
 rw[hs];clear hs
 push_cast (maxSteps:=999999) -implicitDefEqProofs (disch:=omega)[hw]
 refine Q1 (Ql h.mm.sd.ok _) ?_
 rintro a rfl
 push_cast (maxSteps:=999999) -implicitDefEqProofs (disch:=omega)[aInt,hw]
 refine Q0 (Y65 h.mm.words b1 (by omega)) ?_
 rintro a σ1 hs1
 obtain ⟨h1,X1⟩:=h.setW (Z93 _ _ _)
 rw[←hs1] at h1 X1
 clear hs1
 have hw1:=h1.wk
 push_cast (maxSteps:=999999) -implicitDefEqProofs (disch:=omega)[hw1]
 refine Q5 h1 (Z46 h1.re _) ?_
 intro a pl2 σ2 h2 X2
 push_cast (maxSteps:=999999) -implicitDefEqProofs (disch:=omega)
 refine Q5 h2 (Y03 h2.re (by simp only[Cs.setW];omega) 1) ?_
 intro a pl3 σ3 h3 X3
 push_cast (maxSteps:=999999) -implicitDefEqProofs (disch:=omega)
 refine Q5 h3 (Y03 h3.re (by simp only[noteF,Cs.note,Cs.setW,List.length_append,List.length_singleton];omega) 2) ?_
 intro a pl4 σ4 h4 X4
 push_cast (maxSteps:=999999) -implicitDefEqProofs (disch:=omega)
 exact ⟨_,h4⟩
end
section
variable {q:Pm} {L:List Wk} {k jw jc:Nat} {pl0 pl:Pl} {σ0 σ:Kx.St} {x:WC} {f:Fm} {i off:Nat}
theorem wpa_stg2 (h:WM q L k jw jc pl0 σ0 pl σ x) {b:Bool} {id:Int} {P:Program} {K:AV→Kx.St→Prop} {f f':Fm} {j:Nat} {a:AV}
  (hc:∃cs t,σ[i]?=some (.obj 0 cs)∧cs.drop off=aFm f++t∧off+19≤cs.length) (hT:b=true→∃s0:Cs,x.2=s0.setFr id f∧FP σ0.length pl σ (s0.setFr id f) id f i off) (hFa:b=false→(∀ro,pl.p ro≠i)∧σ0.length≤i)
  (hr:f'.regs.length=8) (ha:a.cells=[a]) (h1:a.one=true) (hj:j < 19) (hs:(aFm f).set j a=aFm f')
  (hk:∀σ',WM q L k jw jc pl0 σ0 pl σ' (x.1,x.2.setIf b id f')→act (K (.v undef) σ')):act (EF.awp P (.st 1) [.ref i 0 (off+j),a] σ K):=by
 cases b with
 | true=>
  obtain ⟨s0,e,hF⟩:=hT rfl
  rw[←e] at hF
  exact Q35 h hF hr ha h1 hj hs fun σ' h' _=>hk σ' h'
 | false=>
  obtain ⟨hi,hn⟩:=hFa rfl
  obtain ⟨cs,t,e1,e2,e3⟩:=hc
  refine Q6 ha h1 e1 (by omega) ?_
  exact hk _ (h.loc hi hn _)
theorem setFr2 (s:Cs) (id:Int) (f g:Fm):(s.setFr id f).setFr id g=s.setFr id g:=by
 unfold Cs.setFr
 by_cases h:s.isHeld id=true
 ·have h2:Cs.isHeld { s with fr:=s.fr.set id.toNat f } id=true:=h
  simp only[h,if_true,h2,List.set_set]
 ·have h2:¬Cs.isHeld s id=true:=h
  simp only[h2,if_false,Bool.false_eq_true]
theorem setIf2 (s:Cs) (b:Bool) (id:Int) (f g:Fm):(s.setIf b id f).setIf b id g=s.setIf b id g:=by
 cases b with
 | true=>exact setFr2 s id f g
 | false=>rfl
theorem w_fork_a (h:WM q L k jw jc pl0 σ0 pl σ x) (hb:x.2.back.length≤1000000000) (hF:x.2.Fresh) (hf:FP σ0.length pl σ x.2 x.1.holds f i off) (hr:f.regs.length=8) (pc fn:Int):
  FnG Tryz.prog 228 [.ref jw 0 0,.ref jc 0 0,.ref i 0 off,.v (.int .i64 pc),.v (.int .i64 fn)] σ fun _ σ'=>∃pl',WM q L k jw jc pl0 σ0 pl' σ' (forkF q x f pc fn):=by
 refine Q2 X53 mixed rfl ?_
 simp only[Zg]
 obtain ⟨cs,hcs,g,_,g19,_⟩:=hf.get
 have hw:=h.wk
 push_cast (maxSteps:=999999) -implicitDefEqProofs (disch:=omega)[hcs,g19,hw]
 refine Q0 (G4 σ f x.1.holds fn) ?_
 rintro a σ' ⟨rfl,hs⟩
 rw[hs];clear hs
 push_cast (maxSteps:=999999) -implicitDefEqProofs (disch:=omega)
 refine Q0 (G8 h.re hb _ hr) ?_
 rintro a σ2 ⟨pl2,h2',X2,ha⟩
 have h2:=h.tr h2'
 cases e:makeF q x.2 ⟨1,fn,0,f.regs,x.1.holds,false,false,0,0,0,0,0⟩ with
 | mk o s'=>
  rw[e] at ha h2
  unfold forkF
  simp only[e]
  cases o with
  | none=>
   simp only at ha
   subst ha
   push_cast (maxSteps:=999999) -implicitDefEqProofs (disch:=omega)[aInt,aBool]
   exact ⟨_,h2⟩
  | some id=>
   simp only at ha
   subst ha
   have hm:=fun hh=>J12 h.mm hF e (j:=x.1.holds) hh
   push_cast (maxSteps:=999999) -implicitDefEqProofs (disch:=omega)[aInt,aBool]
   refine wpa_stg h2 hf X2 hm (f':={ f with pc:=pc }) hr rfl rfl (by decide) rfl ?_
   intro σ3 h3 c3 t3 f3
   push_cast (maxSteps:=999999) -implicitDefEqProofs (disch:=omega)
   refine wpa_stg2 h3 (b:=x.2.isHeld x.1.holds) (id:=x.1.holds) c3 (fun hh=>⟨s',by simp only[Cs.setIf,hh,if_true],t3 hh⟩) f3 (f':={ f with pc:=pc,dirty:=true }) hr rfl rfl (by decide) rfl ?_
   intro σ4 h4
   simp only[setIf2] at h4
   push_cast (maxSteps:=999999) -implicitDefEqProofs (disch:=omega)
   refine Qd h4 rfl rfl (by decide) (wst7 _ _ _ _) ⟨rfl,rfl,rfl,rfl,rfl⟩ ?_
   intro σ5 h5 X5
   push_cast (maxSteps:=999999) -implicitDefEqProofs (disch:=omega)
   refine Qd h5 rfl rfl (by decide) (wst1 _ _ _ _) ⟨rfl,rfl,rfl,rfl,rfl⟩ ?_
   intro σ6 h6 X6
   push_cast (maxSteps:=999999) -implicitDefEqProofs (disch:=omega)
   exact ⟨_,h6⟩
theorem w_pipe_a (h:WM q L k jw jc pl0 σ0 pl σ x) (hb:x.2.back.length≤1000000000) (hF:x.2.Fresh) (hf:FP σ0.length pl σ x.2 x.1.holds f i off) (hr:f.regs.length=8) (pc fn:Int):
  FnG Tryz.prog 229 [.ref jw 0 0,.ref jc 0 0,.ref i 0 off,.v (.int .i64 pc),.v (.int .i64 fn)] σ fun _ σ'=>∃pl',WM q L k jw jc pl0 σ0 pl' σ' (pipeF q x f pc fn):=by
 refine Q2 X54 mixed rfl ?_
 simp only[Zh]
 obtain ⟨cs,hcs,g,_,g19,_⟩:=hf.get
 have hw:=h.wk
 push_cast (maxSteps:=999999) -implicitDefEqProofs (disch:=omega)[hcs,g19,hw]
 refine Q0 h.Serial_a ?_
 rintro a σ1 ⟨rfl,h1,X1⟩
 have hf1:=hf.ext X1 h1.mm rfl rfl
 obtain ⟨cs1,hcs1,_,_,k19,_⟩:=hf1.get
 have hw1:=h1.wk
 push_cast (maxSteps:=999999) -implicitDefEqProofs (disch:=omega)[hcs1,k19,hw1,aInt]
 refine Q0 (frame_Loop_a σ1 f x.1.holds fn (w64 (x.2.serial+1))) ?_
 rintro a σ' ⟨rfl,hs⟩
 rw[hs];clear hs
 push_cast (maxSteps:=999999) -implicitDefEqProofs (disch:=omega)
 refine Q0 (G8 h1.re hb _ hr) ?_
 rintro a σ2 ⟨pl2,h2',X2,ha⟩
 have h2:=h1.tr h2'
 cases e:makeF q { x.2 with serial:=w64 (x.2.serial+1) } ⟨3,fn,0,f.regs,x.1.holds,false,false,0,0,0,0,w64 (x.2.serial+1)⟩ with
 | mk o s'=>
  rw[e] at ha h2
  unfold pipeF
  simp only[e]
  cases o with
  | none=>
   simp only at ha
   subst ha
   push_cast (maxSteps:=999999) -implicitDefEqProofs (disch:=omega)[aInt,aBool]
   exact ⟨_,h2⟩
  | some id=>
   simp only at ha
   subst ha
   have hm:=fun hh=>J12 h1.mm hF e (j:=x.1.holds) hh
   push_cast (maxSteps:=999999) -implicitDefEqProofs (disch:=omega)[aInt,aBool]
   refine wpa_stg h2 hf1 X2 hm (f':={ f with pc:=pc }) hr rfl rfl (by decide) rfl ?_
   intro σ3 h3 c3 t3 f3
   push_cast (maxSteps:=999999) -implicitDefEqProofs (disch:=omega)
   refine Q5 h3 (J09 h3.re id) ?_
   intro a pl4 σ4 h4 X4
   push_cast (maxSteps:=999999) -implicitDefEqProofs (disch:=omega)
   exact ⟨_,h4⟩
theorem stage_Go_b (a b:Int):FnP Tryz.prog 263 [.v (.int .i64 a),.v (.int .i64 b)] fun r=>r=aInt (goE a b):=stage_Go_a a b
theorem wpa_par (h:WM q L k jw jc pl0 σ0 pl σ x) {rs:List Int} (hr:rs.length=8) {P:Program} {K:AV→Kx.St→Prop} {id:Int} {f2:Fm} {i2 off2:Nat} (hf:FP σ0.length pl σ x.2 id f2 i2 off2)
  (hk:∀σ',WM q L k jw jc pl0 σ0 pl σ' (x.1,x.2.setFr id { f2 with regs:=rs })→act (K (.v undef) σ')):act (EF.awp P (.st 8) [.ref i2 0 (off2+3),.agg (aRg rs)] σ K):=
 X28 h hf hr fun σ' h' _=>hk σ' h'
theorem w_goOn_a (h:WM q L k jw jc pl0 σ0 pl σ x) (hf:FP σ0.length pl σ x.2 x.1.holds f i off) (hr:f.regs.length=8) (pc:Int) (e:Ef):
  FnG Tryz.prog 230 [.ref jw 0 0,.ref jc 0 0,.ref i 0 off,.v (.int .i64 pc),.agg (aEf e)] σ fun _ σ'=>∃pl',WM q L k jw jc pl0 σ0 pl' σ' (goOnF x f pc e):=by
 refine Q2 X55 mixed rfl ?_
 simp only[Zi]
 obtain ⟨cs,hcs,g,_,_,_⟩:=hf.get
 have g0:=g 0 _ rfl
 rw[Nat.add_zero] at g0
 have g15:=g 15 _ rfl
 obtain ⟨e0,e1,e2,e3⟩:=ef_i e
 have hac:(AV.agg (aEf e)).cells=aEf e:=rfl
 have hb:fillA [AV.v (.int .i64 0),AV.v (.bool false),AV.v (.bool false),AV.v (.int .i64 0)] [(0,1),(1,1),(2,1)] [.v (.int .i64 e.v),.v (.bool (decide (e.k=9))),.v (.bool true)]=some [.v (.int .i64 e.v),.v (.bool (decide (e.k=9))),.v (.bool true),.v (.int .i64 0)]:=by simp[fillA,AV.cells,Value.cells,setAtA]
 push_cast (maxSteps:=999999) -implicitDefEqProofs (disch:=omega)
 refine Q3 ?_
 push_cast (maxSteps:=999999) -implicitDefEqProofs (disch:=omega)[hac,hcs,g15,e2]
 refine Q1 (stage_Go_b _ _) ?_
 rintro a rfl
 by_cases c1:f.kind=2
 ·rw[c1] at g0
  by_cases c2:goE f.stage e.v=0
  ·have eg:goOnF x f pc e=({ x.1 with gStage:=e.v,gWaits:=decide (e.k=9),gLooked:=true,gWhy:=0,state:=9 },if f.stage=0 then (x.2.setFr x.1.holds { f with pc:=pc }).setFr f.parent { (x.2.setFr x.1.holds { f with pc:=pc }).at f.parent with regs:=f.regs } else x.2.setFr x.1.holds { f with pc:=pc }):=by
    unfold goOnF;rw[if_neg (fun h=>h c1),if_neg (fun h=>h c2)]
   rw[eg]
   push_cast (maxSteps:=999999) -implicitDefEqProofs (disch:=omega)[aInt,hcs,g0,c2,Nat.add_zero]
   refine Q35 h hf (f':={ f with pc:=pc }) hr rfl rfl (by decide) rfl ?_
   intro σ1 h1 hf1
   push_cast (maxSteps:=999999) -implicitDefEqProofs (disch:=omega)[e0,e2,hb]
   refine Q8 rfl rfl h1.wk (by simp[X78]) ?_
   rw[wst8g]
   obtain ⟨h2,X2⟩:=h1.st (w':={ x.1 with gStage:=e.v,gWaits:=decide (e.k=9),gLooked:=true,gWhy:=0 }) ⟨rfl,rfl,rfl,rfl,rfl⟩
   simp only
   generalize σ1.set jw (.obj 0 (aWk pl k { x.1 with gStage:=e.v,gWaits:=decide (e.k=9),gLooked:=true,gWhy:=0 }))=σ2 at h2 X2
   push_cast (maxSteps:=999999) -implicitDefEqProofs (disch:=omega)
   refine Qd h2 rfl rfl (by decide) (wst1 _ _ _ _) ⟨rfl,rfl,rfl,rfl,rfl⟩ ?_
   intro σ3 h3 X3
   have hf3:=(hf1.ext X2 h2.mm rfl rfl).ext X3 h3.mm rfl rfl
   obtain ⟨cs3,hcs3,g3,g38,_,_⟩:=hf3.get
   have k15:=g3 15 _ rfl
   have k11:=g3 11 _ rfl
   by_cases c3:f.stage=0
   ·rw[if_pos c3]
    rw[c3] at k15
    push_cast (maxSteps:=999999) -implicitDefEqProofs (disch:=omega)[hcs3,k15,k11,g38]
    refine Q0 (h3.at_a f.parent) ?_
    rintro a σ4 ⟨⟨i4,off4,rfl,hf4⟩,h4,X4⟩
    have hf34:=hf3.ext X4 h4.mm rfl rfl
    obtain ⟨cs4,hcs4,_,m8,_,_⟩:=hf34.get
    push_cast (maxSteps:=999999) -implicitDefEqProofs (disch:=omega)[hcs4,m8]
    refine wpa_par h4 hr hf4 ?_
    intro σ5 h5
    push_cast (maxSteps:=999999) -implicitDefEqProofs (disch:=omega)
    exact ⟨_,h5⟩
   ·rw[if_neg c3]
    push_cast (maxSteps:=999999) -implicitDefEqProofs (disch:=omega)[hcs3,k15,c3]
    exact ⟨_,h3⟩
  ·have eg:goOnF x f pc e=(x.1,x.2.stop 4 (goE f.stage e.v)):=by
    unfold goOnF;rw[if_neg (fun h=>h c1),if_pos c2]
   rw[eg]
   push_cast (maxSteps:=999999) -implicitDefEqProofs (disch:=omega)[aInt,hcs,g0,c2,Nat.add_zero]
   refine Q5 h (h.re.Stop_a 4 (goE f.stage e.v)) ?_
   intro a pl1 σ1 h1 X1
   push_cast (maxSteps:=999999) -implicitDefEqProofs (disch:=omega)
   exact ⟨_,h1⟩
 ·have eg:goOnF x f pc e=(x.1,x.2.stop 4 4):=if_pos c1
  rw[eg]
  push_cast (maxSteps:=999999) -implicitDefEqProofs (disch:=omega)[aInt,hcs,g0,c1,Nat.add_zero]
  refine Q5 h (h.re.Stop_a 4 4) ?_
  intro a pl1 σ1 h1 X1
  push_cast (maxSteps:=999999) -implicitDefEqProofs (disch:=omega)
  exact ⟨_,h1⟩
end
section
variable {q:Pm} {L:List Wk} {k jw jc:Nat} {pl0 pl:Pl} {σ0 σ:Kx.St} {x:WC} {f:Fm} {i off:Nat}
theorem FP.mono {n m:Nat} {s:Cs} {id:Int} (hf:FP n pl σ s id f i off) (h:m≤n):FP m pl σ s id f i off:=⟨hf.cs,hf.wh.imp (fun w=>w) fun ⟨a1,a2,a3⟩=>⟨a1,a2,Nat.le_trans h a3⟩⟩
theorem w_leave_a (h:WM q L k jw jc pl0 σ0 pl σ x) (hf:FP σ0.length pl σ x.2 x.1.holds f i off) (hr:f.regs.length=8):FnG Tryz.prog 231 [.ref jw 0 0,.ref jc 0 0,.ref i 0 off] σ fun _ σ'=>∃pl',WM q L k jw jc pl0 σ0 pl' σ' (leaveF x f):=by
 refine Q2 X17 mixed rfl ?_
 simp only[Q87]
 obtain ⟨cs,hcs,g,g8,_,_⟩:=hf.get
 have g0:=g 0 _ rfl
 rw[Nat.add_zero] at g0
 have g15:=g 15 _ rfl
 have g11:=g 11 _ rfl
 have hb:fillA [AV.v (.bool false),AV.v (.bool false),AV.v (.int .i64 0),AV.v (.bool false)] [(0,1),(1,1)] [.v (.bool true),.v (.bool true)]=some [.v (.bool true),.v (.bool true),.v (.int .i64 0),.v (.bool false)]:=by simp[fillA,AV.cells,Value.cells,setAtA]
 by_cases c1:f.kind=2
 ·rw[c1] at g0
  by_cases c2:f.stage=0
  ·have eg:leaveF x f=({ x.1 with eHeld:=true,eBreaks:=true,eRight:=0,eWoken:=false,state:=14 },x.2.setFr f.parent { x.2.at f.parent with regs:=f.regs }):=by
    unfold leaveF;rw[if_neg (fun h=>h c1),if_neg (fun h=>h c2)]
   rw[eg]
   rw[c2] at g15
   push_cast (maxSteps:=999999) -implicitDefEqProofs (disch:=omega)[hcs,g0,g15,g11,g8,Nat.add_zero]
   refine Q0 (h.at_a f.parent) ?_
   rintro a σ4 ⟨⟨i4,off4,rfl,hf4⟩,h4,X4⟩
   have hf34:=hf.ext X4 h4.mm rfl rfl
   obtain ⟨cs4,hcs4,_,m8,_,_⟩:=hf34.get
   push_cast (maxSteps:=999999) -implicitDefEqProofs (disch:=omega)[hcs4,m8]
   refine wpa_par h4 hr hf4 ?_
   intro σ5 h5
   push_cast (maxSteps:=999999) -implicitDefEqProofs (disch:=omega)
   push_cast (maxSteps:=999999) -implicitDefEqProofs (disch:=omega)[hb]
   refine Q8 rfl rfl h5.wk (by simp[X78]) ?_
   rw[wst12e]
   obtain ⟨h6,X6⟩:=h5.st (w':={ x.1 with eHeld:=true,eBreaks:=true,eRight:=0,eWoken:=false }) ⟨rfl,rfl,rfl,rfl,rfl⟩
   simp only
   generalize σ5.set jw (.obj 0 (aWk pl k { x.1 with eHeld:=true,eBreaks:=true,eRight:=0,eWoken:=false }))=σ6 at h6 X6
   push_cast (maxSteps:=999999) -implicitDefEqProofs (disch:=omega)
   refine Qd h6 rfl rfl (by decide) (wst1 _ _ _ _) ⟨rfl,rfl,rfl,rfl,rfl⟩ ?_
   intro σ7 h7 X7
   push_cast (maxSteps:=999999) -implicitDefEqProofs (disch:=omega)
   exact ⟨_,h7⟩
  ·have eg:leaveF x f=(x.1,x.2.stop 4 5):=by unfold leaveF;rw[if_neg (fun h=>h c1),if_pos c2]
   rw[eg]
   push_cast (maxSteps:=999999) -implicitDefEqProofs (disch:=omega)[hcs,g0,g15,c2,Nat.add_zero]
   refine Q5 h (h.re.Stop_a 4 5) ?_
   intro a pl1 σ1 h1 X1
   push_cast (maxSteps:=999999) -implicitDefEqProofs (disch:=omega)
   exact ⟨_,h1⟩
 ·have eg:leaveF x f=(x.1,x.2.stop 4 4):=if_pos c1
  rw[eg]
  push_cast (maxSteps:=999999) -implicitDefEqProofs (disch:=omega)[hcs,g0,c1,Nat.add_zero]
  refine Q5 h (h.re.Stop_a 4 4) ?_
  intro a pl1 σ1 h1 X1
  push_cast (maxSteps:=999999) -implicitDefEqProofs (disch:=omega)
  exact ⟨_,h1⟩
theorem w_back_a (h:WM q L k jw jc pl0 σ0 pl σ x) (hbk:x.2.back.length≤1000000000) (hf:FP σ0.length pl σ x.2 x.1.holds f i off) (hr:f.regs.length=8):FnG Tryz.prog 232 [.ref jw 0 0,.ref jc 0 0,.ref i 0 off] σ fun _ σ'=>∃pl',WM q L k jw jc pl0 σ0 pl' σ' (backF x f):=by
 refine Q2 X56 mixed rfl ?_
 simp only[Zj]
 obtain ⟨cs,hcs,g,g8,_,_⟩:=hf.get
 have g0:=g 0 _ rfl
 rw[Nat.add_zero] at g0
 have g15:=g 15 _ rfl
 have g11:=g 11 _ rfl
 have hb:∀b,fillA [AV.v (.bool false),AV.v (.bool false),AV.v (.int .i64 0),AV.v (.bool false)] [(0,1)] [.v (.bool b)]=some [.v (.bool b),.v (.bool false),.v (.int .i64 0),.v (.bool false)]:=fun b=>by simp[fillA,AV.cells,Value.cells,setAtA]
 by_cases c1:f.kind=2
 ·rw[c1] at g0
  have eg:backF x f=({ x.1 with eHeld:=decide (f.stage=0),eBreaks:=false,eRight:=0,eWoken:=false,state:=14 },if f.stage=0 then x.2.setFr f.parent { x.2.at f.parent with regs:=f.regs } else x.2):=if_pos c1
  rw[eg]
  push_cast (maxSteps:=999999) -implicitDefEqProofs (disch:=omega)[hcs,g0,g15,hb,Nat.add_zero]
  refine Q8 rfl rfl h.wk (by simp[X78]) ?_
  rw[wst12e]
  obtain ⟨h1,X1⟩:=h.st (w':={ x.1 with eHeld:=decide (f.stage=0),eBreaks:=false,eRight:=0,eWoken:=false }) ⟨rfl,rfl,rfl,rfl,rfl⟩
  generalize σ.set jw (.obj 0 (aWk pl k { x.1 with eHeld:=decide (f.stage=0),eBreaks:=false,eRight:=0,eWoken:=false }))=σ1 at h1 X1
  have hf1:=hf.ext X1 h1.mm rfl rfl
  obtain ⟨cs1,hcs1,k1,k8,_,_⟩:=hf1.get
  have k11:=k1 11 _ rfl
  have hw1:=h1.wk
  have hw12:(aWk pl k { x.1 with eHeld:=decide (f.stage=0),eBreaks:=false,eRight:=0,eWoken:=false })[12]?=some (.v (.bool (decide (f.stage=0)))):=rfl
  by_cases c2:f.stage=0
  ·rw[if_pos c2]
   have c2d:decide (f.stage=0)=true:=decide_eq_true c2
   rw[c2d] at h1 hw1 hw12 ⊢
   push_cast (maxSteps:=999999) -implicitDefEqProofs (disch:=omega)[hw1,hcs1,k11,k8]
   refine Q0 (h1.at_a f.parent) ?_
   rintro a σ4 ⟨⟨i4,off4,rfl,hf4⟩,h4,X4⟩
   have hf34:=hf1.ext X4 h4.mm rfl rfl
   obtain ⟨cs4,hcs4,_,m8,_,_⟩:=hf34.get
   push_cast (maxSteps:=999999) -implicitDefEqProofs (disch:=omega)[hcs4,m8]
   refine wpa_par h4 hr hf4 ?_
   intro σ5 h5
   push_cast (maxSteps:=999999) -implicitDefEqProofs (disch:=omega)
   refine Qd h5 rfl rfl (by decide) (wst1 _ _ _ _) ⟨rfl,rfl,rfl,rfl,rfl⟩ ?_
   intro σ6 h6 X6
   push_cast (maxSteps:=999999) -implicitDefEqProofs (disch:=omega)
   exact ⟨_,h6⟩
  ·rw[if_neg c2]
   have c2d:decide (f.stage=0)=false:=decide_eq_false c2
   rw[c2d] at h1 hw1 hw12 ⊢
   push_cast (maxSteps:=999999) -implicitDefEqProofs (disch:=omega)[hw1]
   refine Qd h1 rfl rfl (by decide) (wst1 _ _ _ _) ⟨rfl,rfl,rfl,rfl,rfl⟩ ?_
   intro σ6 h6 X6
   push_cast (maxSteps:=999999) -implicitDefEqProofs (disch:=omega)
   exact ⟨_,h6⟩
 ·by_cases c2:f.parent=0
  ·have eg:backF x f=(x.1,x.2.stop 1 0):=by unfold backF;rw[if_neg c1,if_pos c2]
   rw[eg]
   rw[c2] at g11
   push_cast (maxSteps:=999999) -implicitDefEqProofs (disch:=omega)[hcs,g0,g11,c1,Nat.add_zero]
   refine Q5 h (h.re.Stop_a 1 0) ?_
   intro a pl1 σ1 h1 X1
   push_cast (maxSteps:=999999) -implicitDefEqProofs (disch:=omega)
   exact ⟨_,h1⟩
  ·have eg:backF x f=({ x.1 with other:=f.parent,holds:=0,state:=7 },x.2.free x.1.holds):=by unfold backF;rw[if_neg c1,if_neg c2]
   rw[eg]
   push_cast (maxSteps:=999999) -implicitDefEqProofs (disch:=omega)[hcs,g0,g11,c1,c2,Nat.add_zero]
   refine Qd h rfl rfl (by decide) (wst7 _ _ _ _) ⟨rfl,rfl,rfl,rfl,rfl⟩ ?_
   intro σ1 h1 X1
   have hw1:=h1.wk
   push_cast (maxSteps:=999999) -implicitDefEqProofs (disch:=omega)[hw1]
   refine Q0 h1.Frames_a ?_
   rintro a σ' ⟨rfl,hs⟩
   rw[hs];clear hs
   push_cast (maxSteps:=999999) -implicitDefEqProofs (disch:=omega)[hw1]
   refine Q5 h1 (h1.re.Free_a hbk x.1.holds) ?_
   intro a pl2 σ2 h2 X2
   push_cast (maxSteps:=999999) -implicitDefEqProofs (disch:=omega)
   refine Qd h2 rfl rfl (by decide) (wst2 _ _ _ _) ⟨rfl,rfl,rfl,rfl,rfl⟩ ?_
   intro σ3 h3 X3
   push_cast (maxSteps:=999999) -implicitDefEqProofs (disch:=omega)
   refine Qd h3 rfl rfl (by decide) (wst1 _ _ _ _) ⟨rfl,rfl,rfl,rfl,rfl⟩ ?_
   intro σ4 h4 X4
   push_cast (maxSteps:=999999) -implicitDefEqProofs (disch:=omega)
   exact ⟨_,h4⟩
theorem w_turn_a (h:WM q L k jw jc pl0 σ0 pl σ x) (hbk:x.2.back.length≤1000000000) (hF:x.2.Fresh) (hf:FP σ0.length pl σ x.2 x.1.holds f i off) (hr:f.regs.length=8) (pc:Int) (e:Ef):
  FnG Tryz.prog 159 [.ref jw 0 0,.ref jc 0 0,.ref i 0 off,.v (.int .i64 pc),.agg (aEf e)] σ fun _ σ'=>∃pl',WM q L k jw jc pl0 σ0 pl' σ' (turnF q x f pc e):=by
 refine Q2 X45 mixed rfl ?_
 simp only[Z8]
 obtain ⟨e0,e1,e2,e3⟩:=ef_i e
 have hac:(AV.agg (aEf e)).cells=aEf e:=rfl
 push_cast (maxSteps:=999999) -implicitDefEqProofs (disch:=omega)
 refine Q3 ?_
 unfold turnF
 by_cases c1:e.k=6
 ·rw[if_pos c1]
  have e0':=e0
  rw[c1] at e0'
  push_cast (maxSteps:=999999) -implicitDefEqProofs (disch:=omega)[hac,e0',e2,cells5]
  refine Q0 (w_fork_a h hbk hF hf hr pc e.v) ?_
  rintro a σ1 ⟨pl1,h1⟩
  push_cast (maxSteps:=999999) -implicitDefEqProofs (disch:=omega)
  exact ⟨_,h1⟩
 rw[if_neg c1]
 by_cases c2:e.k=8
 ·rw[if_pos c2]
  have e0':=e0
  rw[c2] at e0'
  push_cast (maxSteps:=999999) -implicitDefEqProofs (disch:=omega)[hac,e0',e2,cells5]
  refine Q0 (w_pipe_a h hbk hF hf hr pc e.v) ?_
  rintro a σ1 ⟨pl1,h1⟩
  push_cast (maxSteps:=999999) -implicitDefEqProofs (disch:=omega)
  exact ⟨_,h1⟩
 rw[if_neg c2]
 by_cases c3:e.k=9
 ·rw[if_pos (.inl c3)]
  have e0':=e0
  rw[c3] at e0'
  push_cast (maxSteps:=999999) -implicitDefEqProofs (disch:=omega)[hac,e0',e2,cells5]
  refine Q0 (w_goOn_a h hf hr pc e) ?_
  rintro a σ1 ⟨pl1,h1⟩
  push_cast (maxSteps:=999999) -implicitDefEqProofs (disch:=omega)
  exact ⟨_,h1⟩
 by_cases c4:e.k=10
 ·rw[if_pos (.inr c4)]
  have e0':=e0
  rw[c4] at e0'
  push_cast (maxSteps:=999999) -implicitDefEqProofs (disch:=omega)[hac,e0',e2,cells5]
  refine Q0 (w_goOn_a h hf hr pc e) ?_
  rintro a σ1 ⟨pl1,h1⟩
  push_cast (maxSteps:=999999) -implicitDefEqProofs (disch:=omega)
  exact ⟨_,h1⟩
 rw[if_neg (fun h=>h.elim c3 c4)]
 by_cases c5:e.k=11
 ·rw[if_pos c5]
  have e0':=e0
  rw[c5] at e0'
  push_cast (maxSteps:=999999) -implicitDefEqProofs (disch:=omega)[hac,e0',e2,cells5]
  refine Q0 (w_leave_a h hf hr) ?_
  rintro a σ1 ⟨pl1,h1⟩
  push_cast (maxSteps:=999999) -implicitDefEqProofs (disch:=omega)
  exact ⟨_,h1⟩
 rw[if_neg c5]
 by_cases c6:e.k=12
 ·rw[if_pos c6]
  have e0':=e0
  rw[c6] at e0'
  push_cast (maxSteps:=999999) -implicitDefEqProofs (disch:=omega)[hac,e0',e2,cells5]
  refine Q0 (w_back_a h hbk hf hr) ?_
  rintro a σ1 ⟨pl1,h1⟩
  push_cast (maxSteps:=999999) -implicitDefEqProofs (disch:=omega)
  exact ⟨_,h1⟩
 rw[if_neg c6]
 push_cast (maxSteps:=999999) -implicitDefEqProofs (disch:=omega)[hac,e0,c1,c2,c3,c4,c5,c6]
 exact ⟨_,h⟩
end
end Go.Proofs.YtelibaobkcokdaaGreat.Mx
