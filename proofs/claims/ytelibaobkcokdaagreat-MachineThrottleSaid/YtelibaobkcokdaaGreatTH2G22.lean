/- The machine: an instruction. -/
import Derived.Test.YtelibaobkcokdaaGreatTH2G21
import Derived.Test.YtelibaobkcokdaaGreatProg
import Derived.KernelRfl
namespace Go.Proofs.YtelibaobkcokdaaGreat.Mx
set_option linter.unusedSectionVars false
set_option linter.unusedVariables false
set_option linter.unusedSimpArgs false
open Go Go.Kx Go.Proofs Go.Proofs.YtelibaobkcokdaaGreat
set_option maxRecDepth 8000
section
variable {q:Pm} {L:List Wk} {k jw jc:Nat} {pl0 pl:Pl} {σ0 σ:Kx.St} {x:WC} {f:Fm} {i off:Nat}
theorem FP.mono {n m:Nat} {s:Cs} {id:Int} (hf:FP n pl σ s id f i off) (h:m≤n):FP m pl σ s id f i off:=⟨hf.cs,hf.wh.imp (fun w=>w) fun ⟨a1,a2,a3⟩=>⟨a1,a2,Nat.le_trans h a3⟩⟩
theorem w_leave_a (h:WM q L k jw jc pl0 σ0 pl σ x) (hf:FP σ0.length pl σ x.2 x.1.holds f i off) (hr:f.regs.length=8):FnG Tryz.prog 231 [.ref jw 0 0,.ref jc 0 0,.ref i 0 off] σ fun _ σ'=>∃pl',WM q L k jw jc pl0 σ0 pl' σ' (leaveF x f):=by
 refine Q3 Q89.2 mixed rfl ?_;simp only[Q89,qH];obtain ⟨cs,hcs,g,g8,_,_⟩:=hf.get;have g0:=g 0 _ rfl;rw[Nat.add_zero] at g0;have g15:=g 15 _ rfl;have g11:=g 11 _ rfl;have hb:fillA [AV.v (.bool false),AV.v (.bool false),AV.v (.int .i64 0),AV.v (.bool false)] [(0,1),(1,1)] [.v (.bool true),.v (.bool true)]=some [.v (.bool true),.v (.bool true),.v (.int .i64 0),.v (.bool false)]:=by simp[fillA,AV.cells,Value.cells,setAtA]
 by_cases c1:f.kind=2
 ·rw[c1] at g0;by_cases c2:f.stage=0
  ·have eg:leaveF x f=({ x.1 with eHeld:=true,eBreaks:=true,eRight:=0,eWoken:=false,state:=14 },x.2.setFr f.parent { x.2.at f.parent with regs:=f.regs }):=by unfold leaveF;rw[if_neg (fun h=>h c1),if_neg (fun h=>h c2)]
   rw[eg];rw[c2] at g15;push_cast -implicitDefEqProofs (disch:=omega)[hcs,g0,g15,g11,g8,Nat.add_zero];refine Q0 (h.at_a f.parent) ?_;rintro a σ4 ⟨⟨i4,off4,rfl,hf4⟩,h4,X4⟩;have hf34:=hf.ext X4 h4.mm rfl rfl;obtain ⟨cs4,hcs4,_,m8,_,_⟩:=hf34.get;push_cast -implicitDefEqProofs (disch:=omega)[hcs4,m8];refine wpa_par h4 hr hf4 ?_;intro σ5 h5;push_cast -implicitDefEqProofs (disch:=omega);push_cast -implicitDefEqProofs (disch:=omega)[hb];refine Qd rfl rfl h5.wk (by simp[X01]) ?_;rw[wst12e];obtain ⟨h6,X6⟩:=h5.st (w':={ x.1 with eHeld:=true,eBreaks:=true,eRight:=0,eWoken:=false }) ⟨rfl,rfl,rfl,rfl,rfl⟩;simp only;generalize σ5.set jw (.obj 0 (aWk pl k { x.1 with eHeld:=true,eBreaks:=true,eRight:=0,eWoken:=false }))=σ6 at h6 X6;push_cast -implicitDefEqProofs (disch:=omega);refine Qf h6 rfl rfl ko (wst1 _ _ _ _) ⟨rfl,rfl,rfl,rfl,rfl⟩ ?_;intro σ7 h7 X7;push_cast -implicitDefEqProofs (disch:=omega);exact ⟨_,h7⟩
  ·have eg:leaveF x f=(x.1,x.2.stop 4 5):=by unfold leaveF;rw[if_neg (fun h=>h c1),if_pos c2]
   rw[eg];push_cast -implicitDefEqProofs (disch:=omega)[hcs,g0,g15,c2,Nat.add_zero];refine Q7 h (h.re.Stop_a 4 5) ?_;intro a pl1 σ1 h1 X1;push_cast -implicitDefEqProofs (disch:=omega);exact ⟨_,h1⟩
 ·have eg:leaveF x f=(x.1,x.2.stop 4 4):=if_pos c1;rw[eg];push_cast -implicitDefEqProofs (disch:=omega)[hcs,g0,c1,Nat.add_zero];refine Q7 h (h.re.Stop_a 4 4) ?_;intro a pl1 σ1 h1 X1;push_cast -implicitDefEqProofs (disch:=omega);exact ⟨_,h1⟩
theorem w_back_a (h:WM q L k jw jc pl0 σ0 pl σ x) (hbk:x.2.back.length≤1000000000) (hf:FP σ0.length pl σ x.2 x.1.holds f i off) (hr:f.regs.length=8):FnG Tryz.prog 232 [.ref jw 0 0,.ref jc 0 0,.ref i 0 off] σ fun _ σ'=>∃pl',WM q L k jw jc pl0 σ0 pl' σ' (backF x f):=by
 refine Q3 Zh.2 mixed rfl ?_;simp only[Zh,qH];obtain ⟨cs,hcs,g,g8,_,_⟩:=hf.get;have g0:=g 0 _ rfl;rw[Nat.add_zero] at g0;have g15:=g 15 _ rfl;have g11:=g 11 _ rfl;have hb:∀b,fillA [AV.v (.bool false),AV.v (.bool false),AV.v (.int .i64 0),AV.v (.bool false)] [(0,1)] [.v (.bool b)]=some [.v (.bool b),.v (.bool false),.v (.int .i64 0),.v (.bool false)]:=fun b=>by simp[fillA,AV.cells,Value.cells,setAtA]
 by_cases c1:f.kind=2
 ·rw[c1] at g0;have eg:backF x f=({ x.1 with eHeld:=decide (f.stage=0),eBreaks:=false,eRight:=0,eWoken:=false,state:=14 },if f.stage=0 then x.2.setFr f.parent { x.2.at f.parent with regs:=f.regs } else x.2):=if_pos c1;rw[eg];push_cast -implicitDefEqProofs[hcs,g0,g15,hb,Nat.add_zero];refine Qd rfl rfl h.wk (by simp[X01]) ?_;rw[wst12e];obtain ⟨h1,X1⟩:=h.st (w':={ x.1 with eHeld:=decide (f.stage=0),eBreaks:=false,eRight:=0,eWoken:=false }) ⟨rfl,rfl,rfl,rfl,rfl⟩;generalize σ.set jw (.obj 0 (aWk pl k { x.1 with eHeld:=decide (f.stage=0),eBreaks:=false,eRight:=0,eWoken:=false }))=σ1 at h1 X1;have hf1:=hf.ext X1 h1.mm rfl rfl;obtain ⟨cs1,hcs1,k1,k8,_,_⟩:=hf1.get;have k11:=k1 11 _ rfl;have hw1:=h1.wk;have hw12:(aWk pl k { x.1 with eHeld:=decide (f.stage=0),eBreaks:=false,eRight:=0,eWoken:=false })[12]?=some (.v (.bool (decide (f.stage=0)))):=rfl;by_cases c2:f.stage=0
  ·rw[if_pos c2];have c2d:decide (f.stage=0)=true:=decide_eq_true c2;rw[c2d] at h1 hw1 hw12 ⊢;push_cast -implicitDefEqProofs[hw1,hcs1,k11,k8];refine Q0 (h1.at_a f.parent) ?_;rintro a σ4 ⟨⟨i4,off4,rfl,hf4⟩,h4,X4⟩;have hf34:=hf1.ext X4 h4.mm rfl rfl;obtain ⟨cs4,hcs4,_,m8,_,_⟩:=hf34.get;push_cast -implicitDefEqProofs[hcs4,m8];refine wpa_par h4 hr hf4 ?_;intro σ5 h5;push_cast -implicitDefEqProofs;refine Qf h5 rfl rfl ko (wst1 _ _ _ _) ⟨rfl,rfl,rfl,rfl,rfl⟩ ?_;intro σ6 h6 X6;push_cast -implicitDefEqProofs;exact ⟨_,h6⟩
  ·rw[if_neg c2];have c2d:decide (f.stage=0)=false:=decide_eq_false c2;rw[c2d] at h1 hw1 hw12 ⊢;push_cast -implicitDefEqProofs[hw1];refine Qf h1 rfl rfl ko (wst1 _ _ _ _) ⟨rfl,rfl,rfl,rfl,rfl⟩ ?_;intro σ6 h6 X6;push_cast -implicitDefEqProofs;exact ⟨_,h6⟩
 ·by_cases c2:f.parent=0
  ·have eg:backF x f=(x.1,x.2.stop 1 0):=by unfold backF;rw[if_neg c1,if_pos c2]
   rw[eg];rw[c2] at g11;push_cast -implicitDefEqProofs[hcs,g0,g11,c1,Nat.add_zero];refine Q7 h (h.re.Stop_a 1 0) ?_;intro a pl1 σ1 h1 X1;push_cast -implicitDefEqProofs;exact ⟨_,h1⟩
  ·have eg:backF x f=({ x.1 with other:=f.parent,holds:=0,state:=7 },x.2.free x.1.holds):=by unfold backF;rw[if_neg c1,if_neg c2]
   rw[eg];push_cast -implicitDefEqProofs[hcs,g0,g11,c1,c2,Nat.add_zero];refine Qf h rfl rfl ko (wst7 _ _ _ _) ⟨rfl,rfl,rfl,rfl,rfl⟩ ?_;intro σ1 h1 X1;have hw1:=h1.wk;push_cast -implicitDefEqProofs[hw1];refine Q4 h1.Frames_a ?_;push_cast -implicitDefEqProofs[hw1];refine Q7 h1 (h1.re.Free_a hbk x.1.holds) ?_;intro a pl2 σ2 h2 X2;push_cast -implicitDefEqProofs;refine Qf h2 rfl rfl ko (wst2 _ _ _ _) ⟨rfl,rfl,rfl,rfl,rfl⟩ ?_;intro σ3 h3 X3;push_cast -implicitDefEqProofs;refine Qf h3 rfl rfl ko (wst1 _ _ _ _) ⟨rfl,rfl,rfl,rfl,rfl⟩ ?_;intro σ4 h4 X4;push_cast -implicitDefEqProofs;exact ⟨_,h4⟩
theorem w_turn_a (h:WM q L k jw jc pl0 σ0 pl σ x) (hbk:x.2.back.length≤1000000000) (hF:x.2.Fresh) (hf:FP σ0.length pl σ x.2 x.1.holds f i off) (hr:f.regs.length=8) (pc:Int) (e:Ef):
  FnG Tryz.prog 159 [.ref jw 0 0,.ref jc 0 0,.ref i 0 off,.v (.int .i64 pc),.agg (aEf e)] σ fun _ σ'=>∃pl',WM q L k jw jc pl0 σ0 pl' σ' (turnF q x f pc e):=by
 refine Q3 Z6.2 mixed rfl ?_;simp only[Z6,qH];obtain ⟨e0,e1,e2,e3⟩:=ef_i e;have hac:(AV.agg (aEf e)).cells=aEf e:=rfl;push_cast -implicitDefEqProofs;refine Q6 ?_;unfold turnF;by_cases c1:e.k=6
 ·rw[if_pos c1];have e0':=e0;rw[c1] at e0';push_cast -implicitDefEqProofs[hac,e0',e2,cells5];refine Q0 (w_fork_a h hbk hF hf hr pc e.v) ?_;rintro a σ1 ⟨pl1,h1⟩;push_cast -implicitDefEqProofs;exact ⟨_,h1⟩
 rw[if_neg c1];by_cases c2:e.k=8
 ·rw[if_pos c2];have e0':=e0;rw[c2] at e0';push_cast -implicitDefEqProofs[hac,e0',e2,cells5];refine Q0 (w_pipe_a h hbk hF hf hr pc e.v) ?_;rintro a σ1 ⟨pl1,h1⟩;push_cast -implicitDefEqProofs;exact ⟨_,h1⟩
 rw[if_neg c2];by_cases c3:e.k=9
 ·rw[if_pos (.inl c3)];have e0':=e0;rw[c3] at e0';push_cast -implicitDefEqProofs[hac,e0',e2,cells5];refine Q0 (w_goOn_a h hf hr pc e) ?_;rintro a σ1 ⟨pl1,h1⟩;push_cast -implicitDefEqProofs;exact ⟨_,h1⟩
 by_cases c4:e.k=10
 ·rw[if_pos (.inr c4)];have e0':=e0;rw[c4] at e0';push_cast -implicitDefEqProofs[hac,e0',e2,cells5];refine Q0 (w_goOn_a h hf hr pc e) ?_;rintro a σ1 ⟨pl1,h1⟩;push_cast -implicitDefEqProofs;exact ⟨_,h1⟩
 rw[if_neg (fun h=>h.elim c3 c4)];by_cases c5:e.k=11
 ·rw[if_pos c5];have e0':=e0;rw[c5] at e0';push_cast -implicitDefEqProofs[hac,e0',e2,cells5];refine Q0 (w_leave_a h hf hr) ?_;rintro a σ1 ⟨pl1,h1⟩;push_cast -implicitDefEqProofs;exact ⟨_,h1⟩
 rw[if_neg c5];by_cases c6:e.k=12
 ·rw[if_pos c6];have e0':=e0;rw[c6] at e0';push_cast -implicitDefEqProofs[hac,e0',e2,cells5];refine Q0 (w_back_a h hbk hf hr) ?_;rintro a σ1 ⟨pl1,h1⟩;push_cast -implicitDefEqProofs;exact ⟨_,h1⟩
 rw[if_neg c6];push_cast -implicitDefEqProofs[hac,e0,c1,c2,c3,c4,c5,c6];exact ⟨_,h⟩
end
end Go.Proofs.YtelibaobkcokdaaGreat.Mx
namespace Go.Proofs.YtelibaobkcokdaaGreat
open Go Go.Kx Go.Proofs
set_option linter.unusedVariables false
set_option maxRecDepth 100000
set_option maxHeartbeats 16000000
noncomputable def Zk:=qG Tryz.prog 96
end Go.Proofs.YtelibaobkcokdaaGreat
namespace Go.Proofs.YtelibaobkcokdaaGreat.Mx
set_option linter.unusedSectionVars false
set_option linter.unusedVariables false
set_option linter.unusedSimpArgs false
open Go Go.Kx Go.Proofs Go.Proofs.YtelibaobkcokdaaGreat
set_option maxRecDepth 8000
theorem at_snoc1 (σ:Kx.St) (A B:Res):(σ++[A]++[B])[σ.length+1]?=some B:=by simp
theorem at_snoc0 (σ:Kx.St) (A B:Res):(σ++[A]++[B])[σ.length]?=some A:=by simp
theorem lea01 (σ:Kx.St) (A B a b:Res):(((σ++[A]++[B]).set σ.length a).set (σ.length+1) b)=σ++[a,b]:=by rw[List.append_assoc,List.set_append_right _ _ (Nat.le_refl _),List.set_append_right _ _ ka];simp[List.set]
theorem lea10 (σ:Kx.St) (A B a b:Res):(((σ++[A]++[B]).set (σ.length+1) b).set σ.length a)=σ++[a,b]:=by rw[List.append_assoc,List.set_append_right _ _ ka,List.set_append_right _ _ (Nat.le_refl _)];simp[List.set]
theorem at_two0 (σ:Kx.St) (a b:Res):(σ++[a,b])[σ.length]?=some a:=by simp
theorem at_two1 (σ:Kx.St) (a b:Res):(σ++[a,b])[σ.length+1]?=some b:=by simp
theorem doF_len (x:Ix) (pc:Int) (rs:List Int) (hr:rs.length=8):(doF x pc rs).2.1.length=8:=by
 unfold doF
 repeat' split
 all_goals first|exact hr|(rw[Y9];exact hr)
theorem YC (rs:List Int) (e:Ef) (g:Int) (hr:rs.length=8):(tookR rs e g).length=8:=by
 unfold tookR
 repeat' split
 all_goals first|exact hr|(rw[Y9];exact hr)
theorem set_serial {s:Cs} {id:Int} {f g:Fm} (hf:f=s.at id) (hg:g.serial=f.serial) (p:Int):((s.setFr id g).at p).serial=(s.at p).serial:=by
 unfold Cs.setFr;split
 ·rename_i hh;have e:Cs.isHeld { s with fr:=s.fr.set id.toNat g } p=s.isHeld p:=rfl;have hf':f=s.fr.getD id.toNat fm0:=hf.trans (if_pos hh);unfold Cs.at
  rw[e];by_cases c:s.isHeld p=true
  ·rw[if_pos c,if_pos c];by_cases c2:id.toNat=p.toNat
   ·rw[c2] at hf' ⊢;by_cases c3:p.toNat < s.fr.length
    ·rw[←hf',←hg];simp only[List.getD_eq_getElem?_getD,List.getElem?_set_self c3];rfl
    ·simp only[List.getD_eq_getElem?_getD];rw[List.getElem?_eq_none (by rw[List.length_set];omega),List.getElem?_eq_none ka]
   ·simp only[List.getD_eq_getElem?_getD];rw[List.getElem?_set_ne c2]
  ·rw[if_neg c,if_neg c]
 ·rfl
theorem Z42 {s:Cs} {id:Int} {f:Fm}:(s.setFr id f).back=s.back∧(s.setFr id f).held=s.held∧(s.setFr id f).fresh=s.fresh∧(s.setFr id f).log=s.log:=by unfold Cs.setFr;split<;>exact ⟨rfl,rfl,rfl,rfl⟩
theorem begin_fr (s:Cs) (id:Int) (f:Fm):(beginC s id f).back=s.back∧(beginC s id f).held=s.held∧(beginC s id f).fresh=s.fresh:=by
 unfold beginC;split
 ·exact ⟨Z42.1,Z42.2.1,Z42.2.2.1⟩
 ·exact ⟨rfl,rfl,rfl⟩
theorem fresh_of {s s':Cs} (h:s.Fresh) (e:s'.back=s.back∧s'.held=s.held∧s'.fresh=s.fresh):s'.Fresh:=by unfold Cs.Fresh at h ⊢;rw[e.1,e.2.1,e.2.2];exact h
section
variable {q:Pm} {L:List Wk} {k jw jc:Nat} {pl0 pl:Pl} {σ0 σ:Kx.St} {x:WC}
theorem Yg (h:WM q L k jw jc pl0 σ0 pl σ x) {P:Program} {K:AV→Kx.St→Prop} {id:Int} {f f':Fm} {i off j:Nat} {a:AV} (hf:FP σ0.length pl σ x.2 id f i off) (hr:f'.regs.length=8) (ha:a.cells=[a]) (h1:a.one=true) (hj:j < 19) (hs:(aFm f).set j a=aFm f')
  (hk:∀σ',WM q L k jw jc pl0 σ0 pl σ' (x.1,x.2.setFr id f')→FP σ0.length pl σ' (x.2.setFr id f') id f' i off→(∀j,i≠j→σ'[j]?=σ[j]?)→act (K (.v undef) σ')):act (EF.awp P (.st 1) [.ref i 0 (off+j),a] σ K):=by
 obtain ⟨cs,hcs,_,_,_,hlen⟩:=hf.get;refine Q9 ha h1 hcs ka ?_;obtain ⟨g1,g2⟩:=h.turn hf hr hcs (List.length_set) (fm_set1 hj hs);exact hk _ g1 g2 fun j hj=>List.getElem?_set_ne hj
set_option maxHeartbeats 16000000 in
theorem w_run_a (h:WM q L k jw jc pl0 σ0 pl σ x) (hlg:x.2.log.length≤1000000000) (hbk:x.2.back.length≤1000000000) (hF:x.2.Fresh):FnG Tryz.prog 96 [.ref jw 0 0,.ref jc 0 0] σ fun _ σ'=>∃pl',WM q L k jw jc pl0 σ0 pl' σ' (runF q x):=by
 refine Y71 Zk.2 mixed rfl ?_;simp only[Zk,qG];refine Qc (fun ε σ1=>∃i off,(ε 0=.ref jw 0 0∧ε 1=.ref jc 0 0∧ε 4=.ref i 0 off)∧WM q L k jw jc pl0 σ0 pl σ1 x∧FP σ0.length pl σ1 x.2 x.1.holds (x.2.at x.1.holds) i off) ?_ ?_
 ·intro N X R hN;push_cast (maxSteps:=999999) -implicitDefEqProofs (disch:=omega);refine Q0 h.frame_a ?_;rintro a σ1 ⟨⟨i,off,rfl,hf⟩,h1,X1⟩;push_cast (maxSteps:=999999) -implicitDefEqProofs (disch:=omega);exact hN _ _ ⟨i,off,by push_cast (maxSteps:=999999) -implicitDefEqProofs (disch:=omega),h1,hf⟩
 clear h;rintro ε σ1 ⟨i,off,hρ,h,hf⟩;have hr:=Y23 h.mm x.1.holds;obtain ⟨f,ef⟩:∃f,f=x.2.at x.1.holds:=⟨_,rfl⟩;have eg:runF q x=instrF q (x.1,beginC x.2 x.1.holds f) { f with due:=false } (doF (q.code f.fn f.pc) f.pc f.regs):=by rw[ef];rfl
 rw[eg];clear eg;rw[←ef] at hf hr;have hsr:=set_serial (g:={ f with due:=false }) ef rfl f.parent;refine Qc (fun ε σ2=>(ε 0=.ref jw 0 0∧ε 1=.ref jc 0 0∧ε 4=.ref i 0 off)∧∃pl1,WM q L k jw jc pl0 σ0 pl1 σ2 (x.1,beginC x.2 x.1.holds f)∧FP σ0.length pl1 σ2 (beginC x.2 x.1.holds f) x.1.holds { f with due:=false } i off) ?_ ?_
 ·intro N X R hN;obtain ⟨cs,hcs,g,g8,_,_⟩:=hf.get;have g13:=g 13 _ rfl
  cases c:f.due with
  | false=>
   rw[c] at g13;have e1:beginC x.2 x.1.holds f=x.2:=if_neg (by rw[c];decide);have e2:({ f with due:=false }:Fm)=f:=by rw[←c]
   push_cast (maxSteps:=999999) -implicitDefEqProofs (disch:=omega)[hρ,hcs,g13];exact hN _ _ ⟨by push_cast (maxSteps:=999999) -implicitDefEqProofs (disch:=omega)[hρ],pl,by rw[e1];exact h,by rw[e1,e2];exact hf⟩
  | true=>
   rw[c] at g13;push_cast (maxSteps:=999999) -implicitDefEqProofs (disch:=omega)[hρ,hcs,g13];refine Q43 h hf (f':={ f with due:=false }) hr rfl rfl ko rfl ?_;intro σ2 h2 hf2;obtain ⟨cs2,hcs2,k,k8,_,_⟩:=hf2.get;have k11:=k 11 _ rfl;have k14:=k 14 _ rfl;have k15:=k 15 _ rfl;push_cast (maxSteps:=999999) -implicitDefEqProofs (disch:=omega)[hρ,hcs2,k11,k14,k15];refine Q4 h2.Log_a ?_;push_cast (maxSteps:=999999) -implicitDefEqProofs (disch:=omega)[hρ,hcs2,k11,k14,k15];refine Q0 (h2.at_a f.parent) ?_;rintro a σ4 ⟨⟨i4,off4,rfl,hf4⟩,h4,X4⟩;have hf24:=hf2.ext X4 h4.mm rfl rfl;obtain ⟨cs3,hcs3,m,_,_,_⟩:=hf4.get;have m18:=m 18 _ rfl;obtain ⟨cs5,hcs5,k',_,_,_⟩:=hf24.get;have k11:=k' 11 _ rfl;have k14:=k' 14 _ rfl;have k15:=k' 15 _ rfl;simp only[hsr] at m18;push_cast (maxSteps:=999999) -implicitDefEqProofs (disch:=omega)[hcs3,m18,hcs5,k11,k14,k15];have hb:fillA [AV.v (.int .i64 0),AV.v (.int .i64 0),AV.v (.int .i64 0),AV.v (.int .i64 0)] [(0,1),(1,1),(2,1),(3,1)] [.v (.int .i64 2),.v (.int .i64 (x.2.at f.parent).serial),.v (.int .i64 f.index),.v (.int .i64 f.stage)]=some (aVt ⟨2,(x.2.at f.parent).serial,f.index,f.stage⟩):=by simp[fillA,AV.cells,Value.cells,setAtA,aVt]
   push_cast (maxSteps:=999999) -implicitDefEqProofs (disch:=omega)[hb];refine Q7 h4 (h4.re.Note_a (by rw[Z42.2.2.2];exact hlg) _) ?_;intro a pl5 σ5 h5 X5;have e1:beginC x.2 x.1.holds f=(x.2.setFr x.1.holds { f with due:=false }).note ⟨2,(x.2.at f.parent).serial,f.index,f.stage⟩:=if_pos c;push_cast (maxSteps:=999999) -implicitDefEqProofs (disch:=omega);exact hN _ _ ⟨by push_cast (maxSteps:=999999) -implicitDefEqProofs (disch:=omega)[hρ],pl5,by rw[e1];exact h5,by rw[e1];exact hf24.ext X5 h5.mm rfl rfl⟩
 clear hsr hρ ε hf h;rintro ε σ2 ⟨hρ,pl1,h,hf⟩;have hbk':(beginC x.2 x.1.holds f).back.length≤1000000000:=by rw[(begin_fr ..).1];exact hbk
 have hF':=fresh_of hF (begin_fr x.2 x.1.holds f);clear hF hbk hlg;obtain ⟨y,hy⟩:∃y:WC,y=(x.1,beginC x.2 x.1.holds f):=⟨_,rfl⟩;have y1:y.1=x.1:=by rw[hy]
 have y2:y.2=beginC x.2 x.1.holds f:=by rw[hy]
 rw[←hy] at h ⊢;rw[←y2,←y1] at hf;rw[←y2] at hbk' hF';clear hy y1 y2 ef;clear σ1;obtain ⟨g,eg⟩:∃g:Fm,g={ f with due:=false }:=⟨_,rfl⟩;have e1:f.fn=g.fn:=by rw[eg]
 have e2:f.pc=g.pc:=by rw[eg]
 have e3:f.regs=g.regs:=by rw[eg]
 rw[←eg] at hf ⊢;rw[e1,e2,e3];rw[e3] at hr;clear e1 e2 e3 eg;clear f;obtain ⟨cs,hcs,gg,g8,gA,gB⟩:=hf.get;have g1:=gg 1 _ rfl;have g2:=gg 2 _ rfl;have hset8:∀r:List Int,setAtA (aRg z8) 0 (aRg r)=aRg r:=fun r=>rfl;have hset5:∀e:Ef,setAtA (aEf ef0) 0 (aEf e)=aEf e:=fun e=>rfl;have hDo:=step_Do_a (q.code g.fn g.pc) g.pc g.regs hr;have hdl:=doF_len (q.code g.fn g.pc) g.pc g.regs hr;generalize doF (q.code g.fn g.pc) g.pc g.regs=p at hDo hdl ⊢;have hil:=Qh hcs
 refine Qc (fun ε σ3=>∃i4 i5,(ε 0=.ref jw 0 0∧ε 1=.ref jc 0 0∧ε 4=.ref i 0 off∧ε 5=.v (.int .i64 p.1)∧ε 6=.ref i4 0 0∧ε 7=.ref i5 0 0∧ε 8=.v (.int .i64 p.2.2.2)) ∧
   (∀ro,pl1.p ro≠i4)∧(∀ro,pl1.p ro≠i5)∧i≠i4∧σ3[i4]?=some (.obj 0 (aRg p.2.1))∧σ3[i5]?=some (.obj 0 (aEf p.2.2.1))∧WM q L k jw jc pl0 σ0 pl1 σ3 y∧FP σ0.length pl1 σ3 y.2 y.1.holds g i off) ?_ ?_
 ·intro N X R hN;have hap:∀τ:Kx.St,(σ2++τ)[i]?=some (.obj 0 cs):=fun τ=>by rw[List.getElem?_append_left hil];exact hcs
  have hap2:∀τ τ':Kx.St,(σ2++τ++τ')[i]?=some (.obj 0 cs):=fun τ τ'=>by rw[List.append_assoc];exact hap _
  have hlf:∀a b:Res,(∀ro,pl1.p ro≠σ2.length)∧(∀ro,pl1.p ro≠σ2.length+1)∧WM q L k jw jc pl0 σ0 pl1 (σ2++[a,b]) y∧FP σ0.length pl1 (σ2++[a,b]) y.2 y.1.holds g i off:=fun a b=>⟨fun ro=>by have:=h.mm.lt ro;omega,fun ro=>by have:=h.mm.lt ro;omega,h.app _,hf.ext (Ext.app ..) (h.app _).mm rfl rfl⟩;push_cast (maxSteps:=999999) -implicitDefEqProofs (disch:=omega)[hρ,hcs,g1,g2,g8]
  repeat' first
   | refine both2 ?_ ?_
   | (refine Q0 (h.Code_a g.fn g.pc) ?_;rintro a σ' ⟨rfl,hs⟩;rw[hs];clear hs;push_cast (maxSteps:=999999) -implicitDefEqProofs (disch:=omega)[hcs,hap,hap2,g2,g8,List.length_append])
   | (refine Q0 ((h.app _).Code_a g.fn g.pc) ?_;rintro a σ' ⟨rfl,hs⟩;rw[hs];clear hs;push_cast (maxSteps:=999999) -implicitDefEqProofs (disch:=omega)[hcs,hap,hap2,g2,g8,List.length_append])
   | (refine Q0 (((h.app _).app _).Code_a g.fn g.pc) ?_;rintro a σ' ⟨rfl,hs⟩;rw[hs];clear hs;push_cast (maxSteps:=999999) -implicitDefEqProofs (disch:=omega)[hcs,hap,hap2,g2,g8,List.length_append])
   | (refine Qv hDo ?_;rintro a rfl;push_cast (maxSteps:=999999) -implicitDefEqProofs (disch:=omega)[aDo,aInt,hap,hap2,g2,g8,List.length_append])
   | (refine Qm ?_;push_cast (maxSteps:=999999) -implicitDefEqProofs (disch:=omega)[hcs,hap,hap2,g2,g8,List.length_append])
  all_goals first
   | (refine Qd (cs:=aRg z8) (YD _) rfl (at_snoc0 _ _ _) ko ?_;rw[hset8];push_cast (maxSteps:=999999) -implicitDefEqProofs (disch:=omega)[List.length_append];refine Qd (cs:=aEf ef0) rfl rfl (Qa ka (at_snoc1 _ _ _)) ko ?_;rw[hset5,lea01];push_cast (maxSteps:=999999) -implicitDefEqProofs (disch:=omega);obtain ⟨z1,z2,z3,z4⟩:=hlf (Res.obj 0 (aRg p.2.1)) (Res.obj 0 (aEf p.2.2.1));exact hN _ _ ⟨σ2.length,σ2.length+1,by push_cast (maxSteps:=999999) -implicitDefEqProofs (disch:=omega)[hρ,List.length_append],z1,z2,by omega,at_two0 _ _ _,at_two1 _ _ _,z3,z4⟩)
   | (refine Qd (cs:=aRg z8) (YD _) rfl (at_snoc1 _ _ _) ko ?_;rw[hset8];push_cast (maxSteps:=999999) -implicitDefEqProofs (disch:=omega)[List.length_append];refine Qd (cs:=aEf ef0) rfl rfl (Qa ka (at_snoc0 _ _ _)) ko ?_;rw[hset5,lea10];push_cast (maxSteps:=999999) -implicitDefEqProofs (disch:=omega);obtain ⟨z1,z2,z3,z4⟩:=hlf (Res.obj 0 (aEf p.2.2.1)) (Res.obj 0 (aRg p.2.1));exact hN _ _ ⟨σ2.length+1,σ2.length,by push_cast (maxSteps:=999999) -implicitDefEqProofs (disch:=omega)[hρ,List.length_append],z2,z1,by omega,at_two1 _ _ _,at_two0 _ _ _,z3,z4⟩)
 clear hρ ε hf h hDo gg g1 g2 g8 gA gB hcs hil hset8 hset5 cs σ2;rintro ε σ3 ⟨i4,i5,hρ,n4,n5,n6,k4,k5,h,hf⟩;obtain ⟨pc',rs,e,ft⟩:=p;simp only at hρ k4 k5 hdl;obtain ⟨cs,hcs,gg,g8,_,_⟩:=hf.get;have g12:=gg 12 _ rfl;obtain ⟨e0,e1,e2,e3⟩:=ef_i e;have c8:cellsA (some 8) (aRg rs)=some (.agg (aRg rs)):=rfl;have c5:cellsA (some 5) (aEf e)=some (.agg (aEf e)):=rfl;unfold instrF;simp only;push_cast (maxSteps:=999999) -implicitDefEqProofs (disch:=omega)[hρ,k5,c5];refine Q5 (step_Ends_a e) ?_;by_cases cD:endsE e=true∧g.dirty=true
 ·rw[if_pos cD];rw[cD.2] at g12;have hw:=h.wk;have ⟨b1,b2⟩:=Zy h.mm.sd.ok h.mm.sd.ws y.1.holds;push_cast (maxSteps:=999999) -implicitDefEqProofs (disch:=omega)[aBool,cD.1,hρ,hcs,g12,hw];refine Q4 h.Words_a ?_;push_cast (maxSteps:=999999) -implicitDefEqProofs (disch:=omega)[hw,hρ];refine Q4 h.Plan_a ?_;push_cast (maxSteps:=999999) -implicitDefEqProofs (disch:=omega)[hw,hρ];refine Q5 (Qr h.mm.sd.ok _) ?_;push_cast (maxSteps:=999999) -implicitDefEqProofs (disch:=omega)[aInt,hw,hρ];refine Q0 (Z25 h.mm.words b1 ka) ?_;rintro a σ1 ⟨rfl,hs1⟩;obtain ⟨h1,X1⟩:=h.setW (ws:=(joinLeave y.2.ws (q.frame y.1.holds)).2) (Z81 _ _ _);rw[←hs1] at h1 X1;clear hs1
  cases c:(joinLeave y.2.ws (q.frame y.1.holds)).1 with
  | true=>rw[if_pos rfl];push_cast (maxSteps:=999999) -implicitDefEqProofs (disch:=omega)[aBool,hρ];refine Qf h1 rfl rfl ko (wst1 _ _ _ _) ⟨rfl,rfl,rfl,rfl,rfl⟩ ?_;intro σ2 h2 X2;push_cast (maxSteps:=999999) -implicitDefEqProofs (disch:=omega);exact ⟨_,h2⟩
  | false=>rw[if_neg ko];push_cast (maxSteps:=999999) -implicitDefEqProofs (disch:=omega)[aBool,hρ];refine Q7 h1 (XN h1.re) ?_;intro a pl2 σ2 h2 X2;push_cast (maxSteps:=999999) -implicitDefEqProofs (disch:=omega);exact ⟨_,h2⟩
 rw[if_neg cD]
 cases cE:endsE e with
 | false=>
  push_cast (maxSteps:=999999) -implicitDefEqProofs (disch:=omega)[aBool,hρ];by_cases cf:ft≠0
  ·rw[if_pos cf];push_cast (maxSteps:=999999) -implicitDefEqProofs (disch:=omega)[hρ,cf];refine Q7 h (h.re.Stop_a 4 ft) ?_;intro a pl2 σ4 h4 X4;push_cast (maxSteps:=999999) -implicitDefEqProofs (disch:=omega);exact ⟨_,h4⟩
  rw[if_neg cf];have cf0:ft=0:=Classical.not_not.mp cf;rw[cf0] at hρ;push_cast (maxSteps:=999999) -implicitDefEqProofs (disch:=omega)[hρ,k5,c5];refine Q5 (YE e) ?_;by_cases cA:1≤e.k∧e.k≤4
  ·rw[if_pos cA,decide_eq_true cA];push_cast (maxSteps:=999999) -implicitDefEqProofs (disch:=omega)[aBool,hρ,k5,c5];refine Q0 (h.Ask_a e cA) ?_;rintro a σ4 ⟨rfl,h4,X4⟩;have m4:σ4[i4]?=some (.obj 0 (aRg rs)):=(X4.keep i4 (Qh k4) n4).trans k4;have m5:σ4[i5]?=some (.obj 0 (aEf e)):=(X4.keep i5 (Qh k5) n5).trans k5;have hf4:=hf.ext X4 h4.mm rfl rfl
   cases ca:(askD y.2.data e).2.1 with
   | false=>rw[if_pos rfl];push_cast (maxSteps:=999999) -implicitDefEqProofs (disch:=omega)[aBool,aInt,hρ];refine Q7 h4 (h4.re.Stop_a 4 2) ?_;intro a pl2 σ5 h5 X5;push_cast (maxSteps:=999999) -implicitDefEqProofs (disch:=omega);exact ⟨_,h5⟩
   | true=>rw[if_neg ko];push_cast (maxSteps:=999999) -implicitDefEqProofs (disch:=omega)[aBool,aInt,hρ,m4,m5,c5,c8];refine Q5 (YF rs e (askD y.2.data e).1 hdl) ?_;push_cast (maxSteps:=999999) -implicitDefEqProofs (disch:=omega)[hρ];refine Q43 h4 hf4 (f':={ g with pc:=pc' }) hr rfl rfl ko rfl ?_;intro σ5 h5 hf5;push_cast (maxSteps:=999999) -implicitDefEqProofs (disch:=omega)[hρ];refine XM h5 hf5 (YC rs e _ hdl) ?_;intro σ6 h6 hf6;rw[setFr2] at h6;push_cast (maxSteps:=999999) -implicitDefEqProofs (disch:=omega);exact ⟨_,h6⟩
  rw[if_neg cA,decide_eq_false cA];by_cases cT:e.k=5
  ·rw[if_pos cT];have e0':=e0;rw[cT] at e0';push_cast (maxSteps:=999999) -implicitDefEqProofs (disch:=omega)[aBool,hρ,k5,e0',e2];refine Q4 h.Out_a ?_;push_cast (maxSteps:=999999) -implicitDefEqProofs (disch:=omega)[hρ,k5,e0',e2];refine Q0 (Y01 h.mm e.v) ?_;rintro a σ4 hE
   cases ce:emitC q y.2 e.v with
   | none=>rw[ce] at hE;obtain ⟨rfl,hs⟩:=hE;rw[hs];clear hs;push_cast (maxSteps:=999999) -implicitDefEqProofs (disch:=omega)[aBool,hρ];refine Q7 h (h.re.Stop_a 5 3) ?_;intro a pl2 σ5 h5 X5;push_cast (maxSteps:=999999) -implicitDefEqProofs (disch:=omega);exact ⟨_,h5⟩
   | some s'=>
    rw[ce] at hE;obtain ⟨rfl,hO⟩:=hE;obtain ⟨pl4,h4,X4⟩:=h.out hO
    have hs':s'={ y.2 with out:=y.2.out++[e.v] }:=by
     unfold emitC at ce;split at ce
     ·cases ce
     ·cases ce;rfl
    have hf4:FP σ0.length pl4 σ4 s' y.1.holds g i off:=hf.ext X4 h4.mm (by rw[hs']) (by rw[hs']);push_cast (maxSteps:=999999) -implicitDefEqProofs (disch:=omega)[aBool,hρ];refine Q43 h4 hf4 (f':={ g with pc:=pc' }) hr rfl rfl ko rfl ?_;intro σ5 h5 hf5;push_cast (maxSteps:=999999) -implicitDefEqProofs (disch:=omega);exact ⟨_,h5⟩
  rw[if_neg cT];by_cases c07:e.k=0∨e.k=7
  ·rw[if_pos c07];have hfin:∀K:AV→Kx.St→Prop,(∀σ',WM q L k jw jc pl0 σ0 pl1 σ' (y.1,y.2.setFr y.1.holds { g with pc:=pc',regs:=rs })→act (K (.v undef) σ'))→∀σ5,WM q L k jw jc pl0 σ0 pl1 σ5 (y.1,y.2.setFr y.1.holds { g with pc:=pc' })→FP σ0.length pl1 σ5 (y.2.setFr y.1.holds { g with pc:=pc' }) y.1.holds { g with pc:=pc' } i off→act (EF.awp Tryz.prog (.st 8) [.ref i 0 (off+3),.agg (aRg rs)] σ5 K):=by intro K hK σ5 h5 hf5;refine XM h5 hf5 hdl ?_;intro σ6 h6 hf6;rw[setFr2] at h6;exact hK _ h6
   by_cases c0:e.k=0
   ·have e0':=e0;rw[c0] at e0';push_cast (maxSteps:=999999) -implicitDefEqProofs (disch:=omega)[aBool,hρ,k5,e0',k4,c8];refine Yg h hf (f':={ g with pc:=pc' }) hr rfl rfl ko rfl ?_;intro σ5 h5 hf5 hk5;have m4:=(hk5 i4 n6).trans k4;push_cast (maxSteps:=999999) -implicitDefEqProofs (disch:=omega)[hρ,m4,c8];refine hfin _ ?_ σ5 h5 hf5;intro σ6 h6;push_cast (maxSteps:=999999) -implicitDefEqProofs (disch:=omega);exact ⟨_,h6⟩
   ·have c7:e.k=7:=c07.resolve_left c0;have e0':=e0;rw[c7] at e0';push_cast (maxSteps:=999999) -implicitDefEqProofs (disch:=omega)[aBool,hρ,k5,e0',k4,c8];refine Yg h hf (f':={ g with pc:=pc' }) hr rfl rfl ko rfl ?_;intro σ5 h5 hf5 hk5;have m4:=(hk5 i4 n6).trans k4;push_cast (maxSteps:=999999) -implicitDefEqProofs (disch:=omega)[hρ,m4,c8];refine hfin _ ?_ σ5 h5 hf5;intro σ6 h6;push_cast (maxSteps:=999999) -implicitDefEqProofs (disch:=omega);exact ⟨_,h6⟩
  rw[if_neg c07];have c0:e.k≠0:=fun c=>c07 (.inl c);have c7:e.k≠7:=fun c=>c07 (.inr c);push_cast (maxSteps:=999999) -implicitDefEqProofs (disch:=omega)[aBool,hρ,k5,e0,cT,c0,c7,c5];refine Q0 (w_turn_a h hbk' hF' hf hr pc' e) ?_;rintro a σ4 ⟨pl4,h4⟩;push_cast (maxSteps:=999999) -implicitDefEqProofs (disch:=omega);exact ⟨_,h4⟩
 | true=>
  have cd:g.dirty=false:=by
   cases c:g.dirty with
   | false=>rfl
   | true=>exact absurd ⟨cE,c⟩ cD
  rw[cd] at g12;push_cast (maxSteps:=999999) -implicitDefEqProofs (disch:=omega)[aBool,hρ,hcs,g12];by_cases cf:ft≠0
  ·rw[if_pos cf];push_cast (maxSteps:=999999) -implicitDefEqProofs (disch:=omega)[hρ,cf];refine Q7 h (h.re.Stop_a 4 ft) ?_;intro a pl2 σ4 h4 X4;push_cast (maxSteps:=999999) -implicitDefEqProofs (disch:=omega);exact ⟨_,h4⟩
  rw[if_neg cf];have cf0:ft=0:=Classical.not_not.mp cf;rw[cf0] at hρ;push_cast (maxSteps:=999999) -implicitDefEqProofs (disch:=omega)[hρ,k5,c5];refine Q5 (YE e) ?_;by_cases cA:1≤e.k∧e.k≤4
  ·rw[if_pos cA,decide_eq_true cA];push_cast (maxSteps:=999999) -implicitDefEqProofs (disch:=omega)[aBool,hρ,k5,c5];refine Q0 (h.Ask_a e cA) ?_;rintro a σ4 ⟨rfl,h4,X4⟩;have m4:σ4[i4]?=some (.obj 0 (aRg rs)):=(X4.keep i4 (Qh k4) n4).trans k4;have m5:σ4[i5]?=some (.obj 0 (aEf e)):=(X4.keep i5 (Qh k5) n5).trans k5;have hf4:=hf.ext X4 h4.mm rfl rfl
   cases ca:(askD y.2.data e).2.1 with
   | false=>rw[if_pos rfl];push_cast (maxSteps:=999999) -implicitDefEqProofs (disch:=omega)[aBool,aInt,hρ];refine Q7 h4 (h4.re.Stop_a 4 2) ?_;intro a pl2 σ5 h5 X5;push_cast (maxSteps:=999999) -implicitDefEqProofs (disch:=omega);exact ⟨_,h5⟩
   | true=>rw[if_neg ko];push_cast (maxSteps:=999999) -implicitDefEqProofs (disch:=omega)[aBool,aInt,hρ,m4,m5,c5,c8];refine Q5 (YF rs e (askD y.2.data e).1 hdl) ?_;push_cast (maxSteps:=999999) -implicitDefEqProofs (disch:=omega)[hρ];refine Q43 h4 hf4 (f':={ g with pc:=pc' }) hr rfl rfl ko rfl ?_;intro σ5 h5 hf5;push_cast (maxSteps:=999999) -implicitDefEqProofs (disch:=omega)[hρ];refine XM h5 hf5 (YC rs e _ hdl) ?_;intro σ6 h6 hf6;rw[setFr2] at h6;push_cast (maxSteps:=999999) -implicitDefEqProofs (disch:=omega);exact ⟨_,h6⟩
  rw[if_neg cA,decide_eq_false cA];by_cases cT:e.k=5
  ·rw[if_pos cT];have e0':=e0;rw[cT] at e0';push_cast (maxSteps:=999999) -implicitDefEqProofs (disch:=omega)[aBool,hρ,k5,e0',e2];refine Q4 h.Out_a ?_;push_cast (maxSteps:=999999) -implicitDefEqProofs (disch:=omega)[hρ,k5,e0',e2];refine Q0 (Y01 h.mm e.v) ?_;rintro a σ4 hE
   cases ce:emitC q y.2 e.v with
   | none=>rw[ce] at hE;obtain ⟨rfl,hs⟩:=hE;rw[hs];clear hs;push_cast (maxSteps:=999999) -implicitDefEqProofs (disch:=omega)[aBool,hρ];refine Q7 h (h.re.Stop_a 5 3) ?_;intro a pl2 σ5 h5 X5;push_cast (maxSteps:=999999) -implicitDefEqProofs (disch:=omega);exact ⟨_,h5⟩
   | some s'=>
    rw[ce] at hE;obtain ⟨rfl,hO⟩:=hE;obtain ⟨pl4,h4,X4⟩:=h.out hO
    have hs':s'={ y.2 with out:=y.2.out++[e.v] }:=by
     unfold emitC at ce;split at ce
     ·cases ce
     ·cases ce;rfl
    have hf4:FP σ0.length pl4 σ4 s' y.1.holds g i off:=hf.ext X4 h4.mm (by rw[hs']) (by rw[hs']);push_cast (maxSteps:=999999) -implicitDefEqProofs (disch:=omega)[aBool,hρ];refine Q43 h4 hf4 (f':={ g with pc:=pc' }) hr rfl rfl ko rfl ?_;intro σ5 h5 hf5;push_cast (maxSteps:=999999) -implicitDefEqProofs (disch:=omega);exact ⟨_,h5⟩
  rw[if_neg cT];by_cases c07:e.k=0∨e.k=7
  ·rw[if_pos c07];have hfin:∀K:AV→Kx.St→Prop,(∀σ',WM q L k jw jc pl0 σ0 pl1 σ' (y.1,y.2.setFr y.1.holds { g with pc:=pc',regs:=rs })→act (K (.v undef) σ'))→∀σ5,WM q L k jw jc pl0 σ0 pl1 σ5 (y.1,y.2.setFr y.1.holds { g with pc:=pc' })→FP σ0.length pl1 σ5 (y.2.setFr y.1.holds { g with pc:=pc' }) y.1.holds { g with pc:=pc' } i off→act (EF.awp Tryz.prog (.st 8) [.ref i 0 (off+3),.agg (aRg rs)] σ5 K):=by intro K hK σ5 h5 hf5;refine XM h5 hf5 hdl ?_;intro σ6 h6 hf6;rw[setFr2] at h6;exact hK _ h6
   by_cases c0:e.k=0
   ·have e0':=e0;rw[c0] at e0';push_cast (maxSteps:=999999) -implicitDefEqProofs (disch:=omega)[aBool,hρ,k5,e0',k4,c8];refine Yg h hf (f':={ g with pc:=pc' }) hr rfl rfl ko rfl ?_;intro σ5 h5 hf5 hk5;have m4:=(hk5 i4 n6).trans k4;push_cast (maxSteps:=999999) -implicitDefEqProofs (disch:=omega)[hρ,m4,c8];refine hfin _ ?_ σ5 h5 hf5;intro σ6 h6;push_cast (maxSteps:=999999) -implicitDefEqProofs (disch:=omega);exact ⟨_,h6⟩
   ·have c7:e.k=7:=c07.resolve_left c0;have e0':=e0;rw[c7] at e0';push_cast (maxSteps:=999999) -implicitDefEqProofs (disch:=omega)[aBool,hρ,k5,e0',k4,c8];refine Yg h hf (f':={ g with pc:=pc' }) hr rfl rfl ko rfl ?_;intro σ5 h5 hf5 hk5;have m4:=(hk5 i4 n6).trans k4;push_cast (maxSteps:=999999) -implicitDefEqProofs (disch:=omega)[hρ,m4,c8];refine hfin _ ?_ σ5 h5 hf5;intro σ6 h6;push_cast (maxSteps:=999999) -implicitDefEqProofs (disch:=omega);exact ⟨_,h6⟩
  rw[if_neg c07];have c0:e.k≠0:=fun c=>c07 (.inl c);have c7:e.k≠7:=fun c=>c07 (.inr c);push_cast (maxSteps:=999999) -implicitDefEqProofs (disch:=omega)[aBool,hρ,k5,e0,cT,c0,c7,c5];refine Q0 (w_turn_a h hbk' hF' hf hr pc' e) ?_;rintro a σ4 ⟨pl4,h4⟩;push_cast (maxSteps:=999999) -implicitDefEqProofs (disch:=omega);exact ⟨_,h4⟩
end
structure WkOk (w:Wk):Prop where
 st:0≤w.state∧w.state≤24
 dq:w.state=1∨w.state=2∨w.state=3→∃d,w.dq=some d
 th:w.state=3→w.th≠.none
 right:w.state=11→∃d,w.right=some d
 park:w.state=13→∃d,w.park=some d
 wake:w.state=15→∃d,w.wake=some d
 nap:w.state=20→∃d,w.nap=some d
theorem oka_steal:fnOk Tryz.prog 93=true:=by kernel_rfl
theorem oka_pop:fnOk Tryz.prog 94=true:=by kernel_rfl
theorem oka_push:fnOk Tryz.prog 95=true:=by kernel_rfl
theorem oka_run:fnOk Tryz.prog 96=true:=by kernel_rfl
theorem oka_joined:fnOk Tryz.prog 97=true:=by kernel_rfl
theorem oka_spawn:fnOk Tryz.prog 98=true:=by kernel_rfl
theorem oka_arrive:fnOk Tryz.prog 99=true:=by kernel_rfl
theorem oka_resume:fnOk Tryz.prog 100=true:=by kernel_rfl
theorem oka_advance:fnOk Tryz.prog 101=true:=by kernel_rfl
theorem oka_peek:fnOk Tryz.prog 102=true:=by kernel_rfl
theorem oka_check:fnOk Tryz.prog 103=true:=by kernel_rfl
theorem oka_look:fnOk Tryz.prog 104=true:=by kernel_rfl
theorem oka_parks:fnOk Tryz.prog 105=true:=by kernel_rfl
theorem oka_ends:fnOk Tryz.prog 179=true:=by kernel_rfl
theorem oka_closes:fnOk Tryz.prog 180=true:=by kernel_rfl
theorem oka_drop:fnOk Tryz.prog 181=true:=by kernel_rfl
theorem oka_finish:fnOk Tryz.prog 182=true:=by kernel_rfl
theorem oka_complete:fnOk Tryz.prog 183=true:=by kernel_rfl
theorem oka_loop:fnOk Tryz.prog 184=true:=by kernel_rfl
theorem oka_naps:fnOk Tryz.prog 185=true:=by kernel_rfl
theorem oka_start:fnOk Tryz.prog 186=true:=by kernel_rfl
theorem oka_count:fnOk Tryz.prog 187=true:=by kernel_rfl
theorem oka_name:fnOk Tryz.prog 188=true:=by kernel_rfl
theorem oka_joins:fnOk Tryz.prog 189=true:=by kernel_rfl
def lateAV (st:Int):AV:=if st=14 then .fn (.func 179) 0 [] else if st=15 then .fn (.func 180) 0 [] else if st=16 then .fn (.func 181) 0 [] else if st=17 then .fn (.func 182) 0 [] else if st=18 then .fn (.func 183) 0 [] else if st=19 then .fn (.func 184) 0 [] else if st=20 then .fn (.func 185) 0 [] else if st=21 then .fn (.func 186) 0 [] else if st=22 then .fn (.func 187) 0 [] else if st=23 then .fn (.func 188) 0 [] else .fn (.func 189) 0 []
def actAV (st:Int):AV:=if st=1 then .fn (.func 93) 0 [] else if st=2 then .fn (.func 94) 0 [] else if st=3 then .fn (.func 95) 0 [] else if st=4 then .fn (.func 96) 0 [] else if st=5 then .fn (.func 97) 0 [] else if st=6 then .fn (.func 98) 0 [] else if st=7 then .fn (.func 99) 0 [] else if st=8 then .fn (.func 100) 0 [] else if st=9 then .fn (.func 101) 0 [] else if st=10 then .fn (.func 102) 0 [] else if st=11 then .fn (.func 103) 0 [] else if st=12 then .fn (.func 104) 0 [] else if st=13 then .fn (.func 105) 0 [] else lateAV st
theorem w_later_a (st:Int):FnP Tryz.prog 106 [.v (.int .i64 st)] fun a=>a=lateAV st:=by
 refine Qj XZ.2 mixed rfl rfl ?_;simp only[XZ,qH];by_cases c14:st=14
 ·subst c14;push_cast -implicitDefEqProofs;exact oo
 by_cases c15:st=15
 ·subst c15;push_cast -implicitDefEqProofs;exact oo
 by_cases c16:st=16
 ·subst c16;push_cast -implicitDefEqProofs;exact oo
 by_cases c17:st=17
 ·subst c17;push_cast -implicitDefEqProofs;exact oo
 by_cases c18:st=18
 ·subst c18;push_cast -implicitDefEqProofs;exact oo
 by_cases c19:st=19
 ·subst c19;push_cast -implicitDefEqProofs;exact oo
 by_cases c20:st=20
 ·subst c20;push_cast -implicitDefEqProofs;exact oo
 by_cases c21:st=21
 ·subst c21;push_cast -implicitDefEqProofs;exact oo
 by_cases c22:st=22
 ·subst c22;push_cast -implicitDefEqProofs;exact oo
 by_cases c23:st=23
 ·subst c23;push_cast -implicitDefEqProofs;exact oo
 push_cast -implicitDefEqProofs[c14,c15,c16,c17,c18,c19,c20,c21,c22,c23];exact ⟨[],by simp[lateAV,c14,c15,c16,c17,c18,c19,c20,c21,c22,c23,AV.res,AV.pure,AV.pureL,AV.resL]⟩
theorem late_pure (st:Int):(lateAV st).pure=true:=by
 unfold lateAV
 repeat' split
 all_goals rfl
theorem late_res (σ:Kx.St) (st:Int):(lateAV st).res σ=lateAV st:=by
 unfold lateAV
 repeat' split
 all_goals rfl
theorem w_act_a (st:Int):FnP Tryz.prog 52 [.v (.int .i64 st)] fun a=>a=actAV st:=by
 refine Qj X95.2 mixed rfl rfl ?_;simp only[X95,qH];by_cases c1:st=1
 ·subst c1;push_cast -implicitDefEqProofs;exact oo
 by_cases c2:st=2
 ·subst c2;push_cast -implicitDefEqProofs;exact oo
 by_cases c3:st=3
 ·subst c3;push_cast -implicitDefEqProofs;exact oo
 by_cases c4:st=4
 ·subst c4;push_cast -implicitDefEqProofs;exact oo
 by_cases c5:st=5
 ·subst c5;push_cast -implicitDefEqProofs;exact oo
 by_cases c6:st=6
 ·subst c6;push_cast -implicitDefEqProofs;exact oo
 by_cases c7:st=7
 ·subst c7;push_cast -implicitDefEqProofs;exact oo
 by_cases c8:st=8
 ·subst c8;push_cast -implicitDefEqProofs;exact oo
 by_cases c9:st=9
 ·subst c9;push_cast -implicitDefEqProofs;exact oo
 by_cases c10:st=10
 ·subst c10;push_cast -implicitDefEqProofs;exact oo
 by_cases c11:st=11
 ·subst c11;push_cast -implicitDefEqProofs;exact oo
 by_cases c12:st=12
 ·subst c12;push_cast -implicitDefEqProofs;exact oo
 by_cases c13:st=13
 ·subst c13;push_cast -implicitDefEqProofs;exact oo
 push_cast -implicitDefEqProofs[c1,c2,c3,c4,c5,c6,c7,c8,c9,c10,c11,c12,c13];refine Q5 (w_later_a st) ?_;push_cast -implicitDefEqProofs;have e:actAV st=lateAV st:=by simp[actAV,c1,c2,c3,c4,c5,c6,c7,c8,c9,c10,c11,c12,c13]
 rw[e];exact ⟨[],by rw[late_res];exact late_pure _,late_res _ _⟩
section
variable {q:Pm} {L:List Wk} {k jw jc:Nat} {pl0 pl:Pl} {σ0 σ:Kx.St} {x:WC}
theorem wpa_act (h:WM q L k jw jc pl0 σ0 pl σ x) (hok:WkOk x.1) (hs:x.1.state≠0) (hlg:x.2.log.length+1≤1000000000) (hbk:x.2.back.length≤1000000000) (hF:x.2.Fresh) {K:AV→Kx.St→Prop}
  (hk:∀a pl' σ',WM q L k jw jc pl0 σ0 pl' σ' (actF q x)→act (K a σ')):act (EF.awp Tryz.prog .callv [actAV x.1.state,.ref jw 0 0,.ref jc 0 0] σ K):=by
 have hst:=hok.st;have hcs:x.1.state=1∨x.1.state=2∨x.1.state=3∨x.1.state=4∨x.1.state=5∨x.1.state=6∨x.1.state=7∨x.1.state=8∨x.1.state=9∨x.1.state=10∨x.1.state=11∨x.1.state=12∨x.1.state=13∨x.1.state=14∨x.1.state=15∨x.1.state=16∨x.1.state=17∨x.1.state=18∨x.1.state=19∨x.1.state=20∨x.1.state=21∨x.1.state=22∨x.1.state=23∨x.1.state=24:=by omega
 rcases hcs with e|e|e|e|e|e|e|e|e|e|e|e|e|e|e|e|e|e|e|e|e|e|e|e
 ·have ea:actAV x.1.state=.fn (.func 93) 0 []:=by rw[e];rfl
  have eb:actF q x=stealF q x:=by simp[actF,e]
  rw[ea];rw[eb] at hk;obtain ⟨d,hd⟩:=hok.dq ka;refine Q8 oka_steal rfl (w_steal_a h hd) ?_;rintro a σ' ⟨pl',h'⟩;exact hk a pl' σ' h'
 ·have ea:actAV x.1.state=.fn (.func 94) 0 []:=by rw[e];rfl
  have eb:actF q x=popF q x:=by simp[actF,e]
  rw[ea];rw[eb] at hk;obtain ⟨d,hd⟩:=hok.dq ka;refine Q8 oka_pop rfl (w_pop_a h hd) ?_;rintro a σ' ⟨pl',h'⟩;exact hk a pl' σ' h'
 ·have ea:actAV x.1.state=.fn (.func 95) 0 []:=by rw[e];rfl
  have eb:actF q x=pushF q x:=by simp[actF,e]
  rw[ea];rw[eb] at hk;obtain ⟨d,hd⟩:=hok.dq ka;refine Q8 oka_push rfl (w_push_a h hd (hok.th e)) ?_;rintro a σ' ⟨pl',h'⟩;exact hk a pl' σ' h'
 ·have ea:actAV x.1.state=.fn (.func 96) 0 []:=by rw[e];rfl
  have eb:actF q x=runF q x:=by simp[actF,e]
  rw[ea];rw[eb] at hk;refine Q8 oka_run rfl (w_run_a h ka hbk hF) ?_;rintro a σ' ⟨pl',h'⟩;exact hk a pl' σ' h'
 ·have ea:actAV x.1.state=.fn (.func 97) 0 []:=by rw[e];rfl
  have eb:actF q x=joinedF q x:=by simp[actF,e]
  rw[ea];rw[eb] at hk;refine Q8 oka_joined rfl (w_joined_a h) ?_;rintro a σ' ⟨pl',h'⟩;exact hk a pl' σ' h'
 ·have ea:actAV x.1.state=.fn (.func 98) 0 []:=by rw[e];rfl
  have eb:actF q x=spawnF q x:=by simp[actF,e]
  rw[ea];rw[eb] at hk;refine Q8 oka_spawn rfl (w_spawn_a h) ?_;rintro a σ' ⟨pl',h'⟩;exact hk a pl' σ' h'
 ·have ea:actAV x.1.state=.fn (.func 99) 0 []:=by rw[e];rfl
  have eb:actF q x=arriveF q x:=by simp[actF,e]
  rw[ea];rw[eb] at hk;refine Q8 oka_arrive rfl (w_arrive_a h) ?_;rintro a σ' ⟨pl',h'⟩;exact hk a pl' σ' h'
 ·have ea:actAV x.1.state=.fn (.func 100) 0 []:=by rw[e];rfl
  have eb:actF q x=resumeF q x:=by simp[actF,e]
  rw[ea];rw[eb] at hk;refine Q8 oka_resume rfl (w_resume_a h) ?_;rintro a σ' ⟨pl',h'⟩;exact hk a pl' σ' h'
 ·have ea:actAV x.1.state=.fn (.func 101) 0 []:=by rw[e];rfl
  have eb:actF q x=advanceF q x:=by simp[actF,e]
  rw[ea];rw[eb] at hk;refine Q8 oka_advance rfl (w_advance_a h ka) ?_;rintro a σ' ⟨pl',h'⟩;exact hk a pl' σ' h'
 ·have ea:actAV x.1.state=.fn (.func 102) 0 []:=by rw[e];rfl
  have eb:actF q x=peekF q x:=by simp[actF,e]
  rw[ea];rw[eb] at hk;refine Q8 oka_peek rfl (w_peek_a h) ?_;rintro a σ' ⟨pl',h'⟩;exact hk a pl' σ' h'
 ·have ea:actAV x.1.state=.fn (.func 103) 0 []:=by rw[e];rfl
  have eb:actF q x=checkF2 q x:=by simp[actF,e]
  rw[ea];rw[eb] at hk;obtain ⟨d,hd⟩:=hok.right ka;refine Q8 oka_check rfl (w_check_a h hd) ?_;rintro a σ' ⟨pl',h'⟩;exact hk a pl' σ' h'
 ·have ea:actAV x.1.state=.fn (.func 104) 0 []:=by rw[e];rfl
  have eb:actF q x=lookF q x:=by simp[actF,e]
  rw[ea];rw[eb] at hk;refine Q8 oka_look rfl (w_look_a h) ?_;rintro a σ' ⟨pl',h'⟩;exact hk a pl' σ' h'
 ·have ea:actAV x.1.state=.fn (.func 105) 0 []:=by rw[e];rfl
  have eb:actF q x=parksF q x:=by simp[actF,e]
  rw[ea];rw[eb] at hk;obtain ⟨d,hd⟩:=hok.park ka;refine Q8 oka_parks rfl (w_parks_a h hd) ?_;rintro a σ' ⟨pl',h'⟩;exact hk a pl' σ' h'
 ·have ea:actAV x.1.state=.fn (.func 179) 0 []:=by rw[e];rfl
  have eb:actF q x=endsF q x:=by simp[actF,e]
  rw[ea];rw[eb] at hk;refine Q8 oka_ends rfl (w_ends_a h ka) ?_;rintro a σ' ⟨pl',h'⟩;exact hk a pl' σ' h'
 ·have ea:actAV x.1.state=.fn (.func 180) 0 []:=by rw[e];rfl
  have eb:actF q x=closesF q x:=by simp[actF,e]
  rw[ea];rw[eb] at hk;obtain ⟨d,hd⟩:=hok.wake ka;refine Q8 oka_closes rfl (w_closes_a h hd) ?_;rintro a σ' ⟨pl',h'⟩;exact hk a pl' σ' h'
 ·have ea:actAV x.1.state=.fn (.func 181) 0 []:=by rw[e];rfl
  have eb:actF q x=dropF q x:=by simp[actF,e]
  rw[ea];rw[eb] at hk;refine Q8 oka_drop rfl (w_drop_a h hbk) ?_;rintro a σ' ⟨pl',h'⟩;exact hk a pl' σ' h'
 ·have ea:actAV x.1.state=.fn (.func 182) 0 []:=by rw[e];rfl
  have eb:actF q x=finishF q x:=by simp[actF,e]
  rw[ea];rw[eb] at hk;refine Q8 oka_finish rfl (w_finish_a h) ?_;rintro a σ' ⟨pl',h'⟩;exact hk a pl' σ' h'
 ·have ea:actAV x.1.state=.fn (.func 183) 0 []:=by rw[e];rfl
  have eb:actF q x=completeF x:=by simp[actF,e]
  rw[ea];rw[eb] at hk;refine Q8 oka_complete rfl (w_complete_a h hbk ka) ?_;rintro a σ' ⟨pl',h'⟩;exact hk a pl' σ' h'
 ·have ea:actAV x.1.state=.fn (.func 184) 0 []:=by rw[e];rfl
  have eb:actF q x=loopF q x:=by simp[actF,e]
  rw[ea];rw[eb] at hk;refine Q8 oka_loop rfl (w_loop_a h hbk hF) ?_;rintro a σ' ⟨pl',h'⟩;exact hk a pl' σ' h'
 ·have ea:actAV x.1.state=.fn (.func 185) 0 []:=by rw[e];rfl
  have eb:actF q x=napsF q x:=by simp[actF,e]
  rw[ea];rw[eb] at hk;obtain ⟨d,hd⟩:=hok.nap ka;refine Q8 oka_naps rfl (w_naps_a h hd) ?_;rintro a σ' ⟨pl',h'⟩;exact hk a pl' σ' h'
 ·have ea:actAV x.1.state=.fn (.func 186) 0 []:=by rw[e];rfl
  have eb:actF q x=startF q x:=by simp[actF,e]
  rw[ea];rw[eb] at hk;refine Q8 oka_start rfl (w_start_a h hbk hF) ?_;rintro a σ' ⟨pl',h'⟩;exact hk a pl' σ' h'
 ·have ea:actAV x.1.state=.fn (.func 187) 0 []:=by rw[e];rfl
  have eb:actF q x=countF q x:=by simp[actF,e]
  rw[ea];rw[eb] at hk;refine Q8 oka_count rfl (w_count_a h) ?_;rintro a σ' ⟨pl',h'⟩;exact hk a pl' σ' h'
 ·have ea:actAV x.1.state=.fn (.func 188) 0 []:=by rw[e];rfl
  have eb:actF q x=nameF2 q x:=by simp[actF,e]
  rw[ea];rw[eb] at hk;refine Q8 oka_name rfl (w_name_a h) ?_;rintro a σ' ⟨pl',h'⟩;exact hk a pl' σ' h'
 ·have ea:actAV x.1.state=.fn (.func 189) 0 []:=by rw[e];rfl
  have eb:actF q x=joinsF q x:=by simp[actF,e]
  rw[ea];rw[eb] at hk;refine Q8 oka_joins rfl (w_joins_a h hlg) ?_;rintro a σ' ⟨pl',h'⟩;exact hk a pl' σ' h'
theorem w_Step_a (h:WM q L k jw jc pl0 σ0 pl σ x) (hok:WkOk x.1) (hlg:x.2.log.length+1≤1000000000) (hbk:x.2.back.length≤1000000000) (hF:x.2.Fresh) (victim:Int):FnG Tryz.prog 14 [.ref jw 0 0,.ref jc 0 0,.v (.int .i64 victim)] σ fun _ σ'=>∃pl',WM q L k jw jc pl0 σ0 pl' σ' (wkStep q x victim):=by
 refine Q3 Q98.2 mixed rfl ?_;simp only[Q98,qH];push_cast -implicitDefEqProofs (disch:=omega);refine Q4 h.Status_a ?_;unfold wkStep;by_cases c:x.2.status≠0
 ·rw[if_pos c];push_cast -implicitDefEqProofs (disch:=omega)[aInt,c];exact ⟨_,h⟩
 ·rw[if_neg c];have c0:x.2.status=0:=Classical.not_not.mp c;have e1:aInt x.2.status=.v (.int .i64 0):=by rw[c0];rfl
  rw[e1];push_cast -implicitDefEqProofs (disch:=omega)[aInt];refine Q4 h.Stats_a ?_;have hc:=h.c;have g13:(aCore q pl x.2)[13]?=some (.v (.int .i64 x.2.steps)):=rfl;push_cast -implicitDefEqProofs (disch:=omega)[hc,g13,Y49,Nat.add_zero];refine X52 h rfl rfl ko (cos13 _ _ _ _) rfl ?_;intro σ1 h1 X1;have hw1:=h1.wk;have g1:(aWk pl k x.1)[1]?=some (.v (.int .i64 x.1.state)):=rfl;by_cases c2:x.1.state=0
  ·simp only[c2,if_true];rw[c2] at g1;push_cast -implicitDefEqProofs (disch:=omega)[hw1,g1];refine Q0 (w_seek_a h1 victim) ?_;rintro a σ2 ⟨pl2,h2⟩;push_cast -implicitDefEqProofs (disch:=omega);exact ⟨_,h2⟩
  ·simp only[c2,if_false];push_cast -implicitDefEqProofs (disch:=omega)[hw1,g1,c2];refine Q5 (w_act_a x.1.state) ?_;push_cast -implicitDefEqProofs (disch:=omega);refine wpa_act h1 hok c2 hlg hbk hF ?_;intro a pl2 σ2 h2;push_cast -implicitDefEqProofs (disch:=omega);exact ⟨_,h2⟩
end
end Go.Proofs.YtelibaobkcokdaaGreat.Mx
