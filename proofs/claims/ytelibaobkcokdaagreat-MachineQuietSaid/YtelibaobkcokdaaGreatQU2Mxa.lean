/- The machine: a frame runs. -/
import Derived.Test.YtelibaobkcokdaaGreatQU2M2
namespace Go.Proofs.YtelibaobkcokdaaGreat.Mx
set_option linter.unusedSectionVars false
set_option linter.unusedVariables false
set_option linter.unusedSimpArgs false
open Go Go.Kx Go.Proofs Go.Proofs.YtelibaobkcokdaaGreat
set_option maxRecDepth 8000
theorem Q16 (σ:Kx.St) (A B:Res):(σ++[A]++[B])[σ.length+1]?=some B:=by simp
theorem Q17 (σ:Kx.St) (A B:Res):(σ++[A]++[B])[σ.length]?=some A:=by simp
theorem lea01 (σ:Kx.St) (A B a b:Res):(((σ++[A]++[B]).set σ.length a).set (σ.length+1) b)=σ++[a,b]:=by
 rw[List.append_assoc,List.set_append_right _ _ (Nat.le_refl _),List.set_append_right _ _ (by omega)]
 simp[List.set]
theorem lea10 (σ:Kx.St) (A B a b:Res):(((σ++[A]++[B]).set (σ.length+1) b).set σ.length a)=σ++[a,b]:=by
 rw[List.append_assoc,List.set_append_right _ _ (by omega),List.set_append_right _ _ (Nat.le_refl _)]
 simp[List.set]
theorem Q90 (σ:Kx.St) (a b:Res):(σ++[a,b])[σ.length]?=some a:=by simp
theorem Q91 (σ:Kx.St) (a b:Res):(σ++[a,b])[σ.length+1]?=some b:=by simp
theorem doF_len (x:Ix) (pc:Int) (rs:List Int) (hr:rs.length=8):(doF x pc rs).2.1.length=8:=by
 unfold doF
 repeat' split
 all_goals first|exact hr|(rw[J7];exact hr)
theorem JE (rs:List Int) (e:Ef) (g:Int) (hr:rs.length=8):(tookR rs e g).length=8:=by
 unfold tookR
 repeat' split
 all_goals first|exact hr|(rw[J7];exact hr)
theorem set_serial {s:Cs} {id:Int} {f g:Fm} (hf:f=s.at id) (hg:g.serial=f.serial) (p:Int):((s.setFr id g).at p).serial=(s.at p).serial:=by
 unfold Cs.setFr
 split
 ·rename_i hh
  have e:Cs.isHeld { s with fr:=s.fr.set id.toNat g } p=s.isHeld p:=rfl
  have hf':f=s.fr.getD id.toNat fm0:=hf.trans (if_pos hh)
  unfold Cs.at
  rw[e]
  by_cases c:s.isHeld p=true
  ·rw[if_pos c,if_pos c]
   by_cases c2:id.toNat=p.toNat
   ·rw[c2] at hf' ⊢
    by_cases c3:p.toNat < s.fr.length
    ·rw[←hf',←hg]
     simp only[List.getD_eq_getElem?_getD,List.getElem?_set_self c3];rfl
    ·simp only[List.getD_eq_getElem?_getD]
     rw[List.getElem?_eq_none (by rw[List.length_set];omega),List.getElem?_eq_none (by omega)]
   ·simp only[List.getD_eq_getElem?_getD]
    rw[List.getElem?_set_ne c2]
  ·rw[if_neg c,if_neg c]
 ·rfl
theorem Z47 {s:Cs} {id:Int} {f:Fm}:(s.setFr id f).back=s.back∧(s.setFr id f).held=s.held∧(s.setFr id f).fresh=s.fresh∧(s.setFr id f).log=s.log:=by
 unfold Cs.setFr;split<;>exact ⟨rfl,rfl,rfl,rfl⟩
theorem begin_fr (s:Cs) (id:Int) (f:Fm):(beginC s id f).back=s.back∧(beginC s id f).held=s.held∧(beginC s id f).fresh=s.fresh:=by
 unfold beginC
 split
 ·exact ⟨Z47.1,Z47.2.1,Z47.2.2.1⟩
 ·exact ⟨rfl,rfl,rfl⟩
theorem fresh_of {s s':Cs} (h:s.Fresh) (e:s'.back=s.back∧s'.held=s.held∧s'.fresh=s.fresh):s'.Fresh:=by
 unfold Cs.Fresh at h ⊢;rw[e.1,e.2.1,e.2.2];exact h
section
variable {q:Pm} {L:List Wk} {k jw jc:Nat} {pl0 pl:Pl} {σ0 σ:Kx.St} {x:WC}
theorem Je (h:WM q L k jw jc pl0 σ0 pl σ x) {P:Program} {K:AV→Kx.St→Prop} {id:Int} {f f':Fm} {i off j:Nat} {a:AV} (hf:FP σ0.length pl σ x.2 id f i off) (hr:f'.regs.length=8) (ha:a.cells=[a]) (h1:a.one=true) (hj:j < 19) (hs:(aFm f).set j a=aFm f')
  (hk:∀σ',WM q L k jw jc pl0 σ0 pl σ' (x.1,x.2.setFr id f')→FP σ0.length pl σ' (x.2.setFr id f') id f' i off→(∀j,i≠j→σ'[j]?=σ[j]?)→act (K (.v undef) σ')):act (EF.awp P (.st 1) [.ref i 0 (off+j),a] σ K):=by
 obtain ⟨cs,hcs,_,_,_,hlen⟩:=hf.get
 refine Q6 ha h1 hcs (by omega) ?_
 obtain ⟨g1,g2⟩:=h.turn hf hr hcs (List.length_set) (fm_set1 hj hs)
 exact hk _ g1 g2 fun j hj=>List.getElem?_set_ne hj
set_option maxHeartbeats 16000000 in
theorem w_run_a (h:WM q L k jw jc pl0 σ0 pl σ x) (hlg:x.2.log.length≤1000000000) (hbk:x.2.back.length≤1000000000) (hF:x.2.Fresh):FnG Tryz.prog 96 [.ref jw 0 0,.ref jc 0 0] σ fun _ σ'=>∃pl',WM q L k jw jc pl0 σ0 pl' σ' (runF q x):=by
 refine J81 X59 mixed rfl ?_
 simp only[Zm]
 refine Q9 (fun ε σ1=>∃i off,(ε 0=.ref jw 0 0∧ε 1=.ref jc 0 0∧ε 4=.ref i 0 off)∧WM q L k jw jc pl0 σ0 pl σ1 x∧FP σ0.length pl σ1 x.2 x.1.holds (x.2.at x.1.holds) i off) ?_ ?_
 ·intro N X R hN
  push_cast (maxSteps:=999999) -implicitDefEqProofs (disch:=omega)
  refine Q0 h.frame_a ?_
  rintro a σ1 ⟨⟨i,off,rfl,hf⟩,h1,X1⟩
  push_cast (maxSteps:=999999) -implicitDefEqProofs (disch:=omega)
  exact hN _ _ ⟨i,off,by push_cast (maxSteps:=999999) -implicitDefEqProofs (disch:=omega),h1,hf⟩
 clear h
 rintro ε σ1 ⟨i,off,hρ,h,hf⟩
 have hr:=J28 h.mm x.1.holds
 obtain ⟨f,ef⟩:∃f,f=x.2.at x.1.holds:=⟨_,rfl⟩
 have eg:runF q x=instrF q (x.1,beginC x.2 x.1.holds f) { f with due:=false } (doF (q.code f.fn f.pc) f.pc f.regs):=by rw[ef];rfl
 rw[eg];clear eg
 rw[←ef] at hf hr
 have hsr:=set_serial (g:={ f with due:=false }) ef rfl f.parent
 refine Q9 (fun ε σ2=>(ε 0=.ref jw 0 0∧ε 1=.ref jc 0 0∧ε 4=.ref i 0 off)∧∃pl1,WM q L k jw jc pl0 σ0 pl1 σ2 (x.1,beginC x.2 x.1.holds f)∧FP σ0.length pl1 σ2 (beginC x.2 x.1.holds f) x.1.holds { f with due:=false } i off) ?_ ?_
 ·intro N X R hN
  obtain ⟨cs,hcs,g,g8,_,_⟩:=hf.get
  have g13:=g 13 _ rfl
  cases c:f.due with
  | false=>
   rw[c] at g13
   have e1:beginC x.2 x.1.holds f=x.2:=if_neg (by rw[c];decide)
   have e2:({ f with due:=false }:Fm)=f:=by rw[←c]
   push_cast (maxSteps:=999999) -implicitDefEqProofs (disch:=omega)[hρ,hcs,g13]
   exact hN _ _ ⟨by push_cast (maxSteps:=999999) -implicitDefEqProofs (disch:=omega)[hρ],pl,by rw[e1];exact h,by rw[e1,e2];exact hf⟩
  | true=>
   rw[c] at g13
   push_cast (maxSteps:=999999) -implicitDefEqProofs (disch:=omega)[hρ,hcs,g13]
   refine Q35 h hf (f':={ f with due:=false }) hr rfl rfl (by decide) rfl ?_
   intro σ2 h2 hf2
   obtain ⟨cs2,hcs2,k,k8,_,_⟩:=hf2.get
   have k11:=k 11 _ rfl
   have k14:=k 14 _ rfl
   have k15:=k 15 _ rfl
   push_cast (maxSteps:=999999) -implicitDefEqProofs (disch:=omega)[hρ,hcs2,k11,k14,k15]
   refine Q0 h2.Log_a ?_
   rintro a σ' ⟨rfl,hs⟩
   rw[hs];clear hs
   push_cast (maxSteps:=999999) -implicitDefEqProofs (disch:=omega)[hρ,hcs2,k11,k14,k15]
   refine Q0 (h2.at_a f.parent) ?_
   rintro a σ4 ⟨⟨i4,off4,rfl,hf4⟩,h4,X4⟩
   have hf24:=hf2.ext X4 h4.mm rfl rfl
   obtain ⟨cs3,hcs3,m,_,_,_⟩:=hf4.get
   have m18:=m 18 _ rfl
   obtain ⟨cs5,hcs5,k',_,_,_⟩:=hf24.get
   have k11:=k' 11 _ rfl
   have k14:=k' 14 _ rfl
   have k15:=k' 15 _ rfl
   simp only[hsr] at m18
   push_cast (maxSteps:=999999) -implicitDefEqProofs (disch:=omega)[hcs3,m18,hcs5,k11,k14,k15]
   have hb:fillA [AV.v (.int .i64 0),AV.v (.int .i64 0),AV.v (.int .i64 0),AV.v (.int .i64 0)] [(0,1),(1,1),(2,1),(3,1)] [.v (.int .i64 2),.v (.int .i64 (x.2.at f.parent).serial),.v (.int .i64 f.index),.v (.int .i64 f.stage)]=some (aVt ⟨2,(x.2.at f.parent).serial,f.index,f.stage⟩):=by simp[fillA,AV.cells,Value.cells,setAtA,aVt]
   push_cast (maxSteps:=999999) -implicitDefEqProofs (disch:=omega)[hb]
   refine Q5 h4 (h4.re.Note_a (by rw[Z47.2.2.2];exact hlg) _) ?_
   intro a pl5 σ5 h5 X5
   have e1:beginC x.2 x.1.holds f=(x.2.setFr x.1.holds { f with due:=false }).note ⟨2,(x.2.at f.parent).serial,f.index,f.stage⟩:=if_pos c
   push_cast (maxSteps:=999999) -implicitDefEqProofs (disch:=omega)
   exact hN _ _ ⟨by push_cast (maxSteps:=999999) -implicitDefEqProofs (disch:=omega)[hρ],pl5,by rw[e1];exact h5,by rw[e1];exact hf24.ext X5 h5.mm rfl rfl⟩
 clear hsr hρ ε hf h
 rintro ε σ2 ⟨hρ,pl1,h,hf⟩
 have hbk':(beginC x.2 x.1.holds f).back.length≤1000000000:=by rw[(begin_fr ..).1];exact hbk
 have hF':=fresh_of hF (begin_fr x.2 x.1.holds f)
 clear hF hbk hlg
 obtain ⟨y,hy⟩:∃y:WC,y=(x.1,beginC x.2 x.1.holds f):=⟨_,rfl⟩
 have y1:y.1=x.1:=by rw[hy]
 have y2:y.2=beginC x.2 x.1.holds f:=by rw[hy]
 rw[←hy] at h ⊢
 rw[←y2,←y1] at hf
 rw[←y2] at hbk' hF'
 clear hy y1 y2 ef
 clear σ1
 obtain ⟨g,eg⟩:∃g:Fm,g={ f with due:=false }:=⟨_,rfl⟩
 have e1:f.fn=g.fn:=by rw[eg]
 have e2:f.pc=g.pc:=by rw[eg]
 have e3:f.regs=g.regs:=by rw[eg]
 rw[←eg] at hf ⊢
 rw[e1,e2,e3]
 rw[e3] at hr
 clear e1 e2 e3 eg
 clear f
 obtain ⟨cs,hcs,gg,g8,gA,gB⟩:=hf.get
 have g1:=gg 1 _ rfl
 have g2:=gg 2 _ rfl
 have hset8:∀r:List Int,setAtA (aRg z8) 0 (aRg r)=aRg r:=fun r=>rfl
 have hset5:∀e:Ef,setAtA (aEf ef0) 0 (aEf e)=aEf e:=fun e=>rfl
 have hDo:=step_Do_a (q.code g.fn g.pc) g.pc g.regs hr
 have hdl:=doF_len (q.code g.fn g.pc) g.pc g.regs hr
 generalize doF (q.code g.fn g.pc) g.pc g.regs=p at hDo hdl ⊢
 have hil:=Qe hcs
 refine Q9 (fun ε σ3=>∃i4 i5,(ε 0=.ref jw 0 0∧ε 1=.ref jc 0 0∧ε 4=.ref i 0 off∧ε 5=.v (.int .i64 p.1)∧ε 6=.ref i4 0 0∧ε 7=.ref i5 0 0∧ε 8=.v (.int .i64 p.2.2.2)) ∧
   (∀ro,pl1.p ro≠i4)∧(∀ro,pl1.p ro≠i5)∧i≠i4∧σ3[i4]?=some (.obj 0 (aRg p.2.1))∧σ3[i5]?=some (.obj 0 (aEf p.2.2.1))∧WM q L k jw jc pl0 σ0 pl1 σ3 y∧FP σ0.length pl1 σ3 y.2 y.1.holds g i off) ?_ ?_
 ·intro N X R hN
  have hap:∀τ:Kx.St,(σ2++τ)[i]?=some (.obj 0 cs):=fun τ=>by rw[List.getElem?_append_left hil];exact hcs
  have hap2:∀τ τ':Kx.St,(σ2++τ++τ')[i]?=some (.obj 0 cs):=fun τ τ'=>by rw[List.append_assoc];exact hap _
  have hlf:∀a b:Res,(∀ro,pl1.p ro≠σ2.length)∧(∀ro,pl1.p ro≠σ2.length+1)∧WM q L k jw jc pl0 σ0 pl1 (σ2++[a,b]) y∧FP σ0.length pl1 (σ2++[a,b]) y.2 y.1.holds g i off:=fun a b=>
   ⟨fun ro=>by have:=h.mm.lt ro;omega,fun ro=>by have:=h.mm.lt ro;omega,h.app _,hf.ext (Ext.app ..) (h.app _).mm rfl rfl⟩
  push_cast (maxSteps:=999999) -implicitDefEqProofs (disch:=omega)[hρ,hcs,g1,g2,g8]
  refine both2 ?_ (both2 ?_ ?_)
  ·refine Q0 (h.Code_a g.fn g.pc) ?_
   rintro a σ' ⟨rfl,hs⟩
   rw[hs];clear hs
   push_cast (maxSteps:=999999) -implicitDefEqProofs (disch:=omega)[hcs,hap,hap2,g2,g8,List.length_append]
   refine both2 ?_ (both2 ?_ ?_)
   ·refine Q1 hDo ?_
    rintro a rfl
    push_cast (maxSteps:=999999) -implicitDefEqProofs (disch:=omega)[aDo,aInt,hap,hap2,g2,g8,List.length_append]
    refine both2 ?_ ?_
    ·refine Qb ?_
     push_cast (maxSteps:=999999) -implicitDefEqProofs (disch:=omega)[hcs,hap,hap2,g2,g8,List.length_append]
     refine Qb ?_
     push_cast (maxSteps:=999999) -implicitDefEqProofs (disch:=omega)[hcs,hap,hap2,g2,g8,List.length_append]
     refine Q8 (cs:=aRg z8) (Q18 _) rfl (Q17 _ _ _) (by decide) ?_
     rw[hset8]
     push_cast (maxSteps:=999999) -implicitDefEqProofs (disch:=omega)[List.length_append]
     refine Q8 (cs:=aEf ef0) rfl rfl (Q4 (by omega) (Q16 _ _ _)) (by decide) ?_
     rw[hset5,lea01]
     push_cast (maxSteps:=999999) -implicitDefEqProofs (disch:=omega)
     obtain ⟨z1,z2,z3,z4⟩:=hlf (Res.obj 0 (aRg p.2.1)) (Res.obj 0 (aEf p.2.2.1))
     exact hN _ _ ⟨σ2.length,σ2.length+1,by push_cast (maxSteps:=999999) -implicitDefEqProofs (disch:=omega)[hρ,List.length_append],z1,z2,by omega,Q90 _ _ _,Q91 _ _ _,z3,z4⟩
    ·refine Qb ?_
     push_cast (maxSteps:=999999) -implicitDefEqProofs (disch:=omega)[hcs,hap,hap2,g2,g8,List.length_append]
     refine Qb ?_
     push_cast (maxSteps:=999999) -implicitDefEqProofs (disch:=omega)[hcs,hap,hap2,g2,g8,List.length_append]
     refine Q8 (cs:=aRg z8) (Q18 _) rfl (Q16 _ _ _) (by decide) ?_
     rw[hset8]
     push_cast (maxSteps:=999999) -implicitDefEqProofs (disch:=omega)[List.length_append]
     refine Q8 (cs:=aEf ef0) rfl rfl (Q4 (by omega) (Q17 _ _ _)) (by decide) ?_
     rw[hset5,lea10]
     push_cast (maxSteps:=999999) -implicitDefEqProofs (disch:=omega)
     obtain ⟨z1,z2,z3,z4⟩:=hlf (Res.obj 0 (aEf p.2.2.1)) (Res.obj 0 (aRg p.2.1))
     exact hN _ _ ⟨σ2.length+1,σ2.length,by push_cast (maxSteps:=999999) -implicitDefEqProofs (disch:=omega)[hρ,List.length_append],z2,z1,by omega,Q91 _ _ _,Q90 _ _ _,z3,z4⟩
   ·refine Qb ?_
    push_cast (maxSteps:=999999) -implicitDefEqProofs (disch:=omega)[hcs,hap,hap2,g2,g8,List.length_append]
    refine both2 ?_ ?_
    ·refine Q1 hDo ?_
     rintro a rfl
     push_cast (maxSteps:=999999) -implicitDefEqProofs (disch:=omega)[aDo,aInt,hap,hap2,g2,g8,List.length_append]
     refine Qb ?_
     push_cast (maxSteps:=999999) -implicitDefEqProofs (disch:=omega)[hcs,hap,hap2,g2,g8,List.length_append]
     refine Q8 (cs:=aRg z8) (Q18 _) rfl (Q17 _ _ _) (by decide) ?_
     rw[hset8]
     push_cast (maxSteps:=999999) -implicitDefEqProofs (disch:=omega)[List.length_append]
     refine Q8 (cs:=aEf ef0) rfl rfl (Q4 (by omega) (Q16 _ _ _)) (by decide) ?_
     rw[hset5,lea01]
     push_cast (maxSteps:=999999) -implicitDefEqProofs (disch:=omega)
     obtain ⟨z1,z2,z3,z4⟩:=hlf (Res.obj 0 (aRg p.2.1)) (Res.obj 0 (aEf p.2.2.1))
     exact hN _ _ ⟨σ2.length,σ2.length+1,by push_cast (maxSteps:=999999) -implicitDefEqProofs (disch:=omega)[hρ,List.length_append],z1,z2,by omega,Q90 _ _ _,Q91 _ _ _,z3,z4⟩
    ·refine Qb ?_
     push_cast (maxSteps:=999999) -implicitDefEqProofs (disch:=omega)[hcs,hap,hap2,g2,g8,List.length_append]
     refine Q1 hDo ?_
     rintro a rfl
     push_cast (maxSteps:=999999) -implicitDefEqProofs (disch:=omega)[aDo,aInt,hap,hap2,g2,g8,List.length_append]
     refine Q8 (cs:=aRg z8) (Q18 _) rfl (Q17 _ _ _) (by decide) ?_
     rw[hset8]
     push_cast (maxSteps:=999999) -implicitDefEqProofs (disch:=omega)[List.length_append]
     refine Q8 (cs:=aEf ef0) rfl rfl (Q4 (by omega) (Q16 _ _ _)) (by decide) ?_
     rw[hset5,lea01]
     push_cast (maxSteps:=999999) -implicitDefEqProofs (disch:=omega)
     obtain ⟨z1,z2,z3,z4⟩:=hlf (Res.obj 0 (aRg p.2.1)) (Res.obj 0 (aEf p.2.2.1))
     exact hN _ _ ⟨σ2.length,σ2.length+1,by push_cast (maxSteps:=999999) -implicitDefEqProofs (disch:=omega)[hρ,List.length_append],z1,z2,by omega,Q90 _ _ _,Q91 _ _ _,z3,z4⟩
   ·refine Qb ?_
    push_cast (maxSteps:=999999) -implicitDefEqProofs (disch:=omega)[hcs,hap,hap2,g2,g8,List.length_append]
    refine both2 ?_ ?_
    ·refine Q1 hDo ?_
     rintro a rfl
     push_cast (maxSteps:=999999) -implicitDefEqProofs (disch:=omega)[aDo,aInt,hap,hap2,g2,g8,List.length_append]
     refine Qb ?_
     push_cast (maxSteps:=999999) -implicitDefEqProofs (disch:=omega)[hcs,hap,hap2,g2,g8,List.length_append]
     refine Q8 (cs:=aRg z8) (Q18 _) rfl (Q16 _ _ _) (by decide) ?_
     rw[hset8]
     push_cast (maxSteps:=999999) -implicitDefEqProofs (disch:=omega)[List.length_append]
     refine Q8 (cs:=aEf ef0) rfl rfl (Q4 (by omega) (Q17 _ _ _)) (by decide) ?_
     rw[hset5,lea10]
     push_cast (maxSteps:=999999) -implicitDefEqProofs (disch:=omega)
     obtain ⟨z1,z2,z3,z4⟩:=hlf (Res.obj 0 (aEf p.2.2.1)) (Res.obj 0 (aRg p.2.1))
     exact hN _ _ ⟨σ2.length+1,σ2.length,by push_cast (maxSteps:=999999) -implicitDefEqProofs (disch:=omega)[hρ,List.length_append],z2,z1,by omega,Q91 _ _ _,Q90 _ _ _,z3,z4⟩
    ·refine Qb ?_
     push_cast (maxSteps:=999999) -implicitDefEqProofs (disch:=omega)[hcs,hap,hap2,g2,g8,List.length_append]
     refine Q1 hDo ?_
     rintro a rfl
     push_cast (maxSteps:=999999) -implicitDefEqProofs (disch:=omega)[aDo,aInt,hap,hap2,g2,g8,List.length_append]
     refine Q8 (cs:=aRg z8) (Q18 _) rfl (Q16 _ _ _) (by decide) ?_
     rw[hset8]
     push_cast (maxSteps:=999999) -implicitDefEqProofs (disch:=omega)[List.length_append]
     refine Q8 (cs:=aEf ef0) rfl rfl (Q4 (by omega) (Q17 _ _ _)) (by decide) ?_
     rw[hset5,lea10]
     push_cast (maxSteps:=999999) -implicitDefEqProofs (disch:=omega)
     obtain ⟨z1,z2,z3,z4⟩:=hlf (Res.obj 0 (aEf p.2.2.1)) (Res.obj 0 (aRg p.2.1))
     exact hN _ _ ⟨σ2.length+1,σ2.length,by push_cast (maxSteps:=999999) -implicitDefEqProofs (disch:=omega)[hρ,List.length_append],z2,z1,by omega,Q91 _ _ _,Q90 _ _ _,z3,z4⟩
  ·refine Qb ?_
   push_cast (maxSteps:=999999) -implicitDefEqProofs (disch:=omega)[hcs,hap,hap2,g2,g8,List.length_append]
   refine both2 ?_ ?_
   ·refine Q0 ((h.app _).Code_a g.fn g.pc) ?_
    rintro a σ' ⟨rfl,hs⟩
    rw[hs];clear hs
    push_cast (maxSteps:=999999) -implicitDefEqProofs (disch:=omega)[hcs,hap,hap2,g2,g8,List.length_append]
    refine both2 ?_ ?_
    ·refine Q1 hDo ?_
     rintro a rfl
     push_cast (maxSteps:=999999) -implicitDefEqProofs (disch:=omega)[aDo,aInt,hap,hap2,g2,g8,List.length_append]
     refine Qb ?_
     push_cast (maxSteps:=999999) -implicitDefEqProofs (disch:=omega)[hcs,hap,hap2,g2,g8,List.length_append]
     refine Q8 (cs:=aRg z8) (Q18 _) rfl (Q17 _ _ _) (by decide) ?_
     rw[hset8]
     push_cast (maxSteps:=999999) -implicitDefEqProofs (disch:=omega)[List.length_append]
     refine Q8 (cs:=aEf ef0) rfl rfl (Q4 (by omega) (Q16 _ _ _)) (by decide) ?_
     rw[hset5,lea01]
     push_cast (maxSteps:=999999) -implicitDefEqProofs (disch:=omega)
     obtain ⟨z1,z2,z3,z4⟩:=hlf (Res.obj 0 (aRg p.2.1)) (Res.obj 0 (aEf p.2.2.1))
     exact hN _ _ ⟨σ2.length,σ2.length+1,by push_cast (maxSteps:=999999) -implicitDefEqProofs (disch:=omega)[hρ,List.length_append],z1,z2,by omega,Q90 _ _ _,Q91 _ _ _,z3,z4⟩
    ·refine Qb ?_
     push_cast (maxSteps:=999999) -implicitDefEqProofs (disch:=omega)[hcs,hap,hap2,g2,g8,List.length_append]
     refine Q1 hDo ?_
     rintro a rfl
     push_cast (maxSteps:=999999) -implicitDefEqProofs (disch:=omega)[aDo,aInt,hap,hap2,g2,g8,List.length_append]
     refine Q8 (cs:=aRg z8) (Q18 _) rfl (Q17 _ _ _) (by decide) ?_
     rw[hset8]
     push_cast (maxSteps:=999999) -implicitDefEqProofs (disch:=omega)[List.length_append]
     refine Q8 (cs:=aEf ef0) rfl rfl (Q4 (by omega) (Q16 _ _ _)) (by decide) ?_
     rw[hset5,lea01]
     push_cast (maxSteps:=999999) -implicitDefEqProofs (disch:=omega)
     obtain ⟨z1,z2,z3,z4⟩:=hlf (Res.obj 0 (aRg p.2.1)) (Res.obj 0 (aEf p.2.2.1))
     exact hN _ _ ⟨σ2.length,σ2.length+1,by push_cast (maxSteps:=999999) -implicitDefEqProofs (disch:=omega)[hρ,List.length_append],z1,z2,by omega,Q90 _ _ _,Q91 _ _ _,z3,z4⟩
   ·refine Qb ?_
    push_cast (maxSteps:=999999) -implicitDefEqProofs (disch:=omega)[hcs,hap,hap2,g2,g8,List.length_append]
    refine Q0 (((h.app _).app _).Code_a g.fn g.pc) ?_
    rintro a σ' ⟨rfl,hs⟩
    rw[hs];clear hs
    push_cast (maxSteps:=999999) -implicitDefEqProofs (disch:=omega)[hcs,hap,hap2,g2,g8,List.length_append]
    refine Q1 hDo ?_
    rintro a rfl
    push_cast (maxSteps:=999999) -implicitDefEqProofs (disch:=omega)[aDo,aInt,hap,hap2,g2,g8,List.length_append]
    refine Q8 (cs:=aRg z8) (Q18 _) rfl (Q17 _ _ _) (by decide) ?_
    rw[hset8]
    push_cast (maxSteps:=999999) -implicitDefEqProofs (disch:=omega)[List.length_append]
    refine Q8 (cs:=aEf ef0) rfl rfl (Q4 (by omega) (Q16 _ _ _)) (by decide) ?_
    rw[hset5,lea01]
    push_cast (maxSteps:=999999) -implicitDefEqProofs (disch:=omega)
    obtain ⟨z1,z2,z3,z4⟩:=hlf (Res.obj 0 (aRg p.2.1)) (Res.obj 0 (aEf p.2.2.1))
    exact hN _ _ ⟨σ2.length,σ2.length+1,by push_cast (maxSteps:=999999) -implicitDefEqProofs (disch:=omega)[hρ,List.length_append],z1,z2,by omega,Q90 _ _ _,Q91 _ _ _,z3,z4⟩
  ·refine Qb ?_
   push_cast (maxSteps:=999999) -implicitDefEqProofs (disch:=omega)[hcs,hap,hap2,g2,g8,List.length_append]
   refine both2 ?_ ?_
   ·refine Q0 ((h.app _).Code_a g.fn g.pc) ?_
    rintro a σ' ⟨rfl,hs⟩
    rw[hs];clear hs
    push_cast (maxSteps:=999999) -implicitDefEqProofs (disch:=omega)[hcs,hap,hap2,g2,g8,List.length_append]
    refine both2 ?_ ?_
    ·refine Q1 hDo ?_
     rintro a rfl
     push_cast (maxSteps:=999999) -implicitDefEqProofs (disch:=omega)[aDo,aInt,hap,hap2,g2,g8,List.length_append]
     refine Qb ?_
     push_cast (maxSteps:=999999) -implicitDefEqProofs (disch:=omega)[hcs,hap,hap2,g2,g8,List.length_append]
     refine Q8 (cs:=aRg z8) (Q18 _) rfl (Q16 _ _ _) (by decide) ?_
     rw[hset8]
     push_cast (maxSteps:=999999) -implicitDefEqProofs (disch:=omega)[List.length_append]
     refine Q8 (cs:=aEf ef0) rfl rfl (Q4 (by omega) (Q17 _ _ _)) (by decide) ?_
     rw[hset5,lea10]
     push_cast (maxSteps:=999999) -implicitDefEqProofs (disch:=omega)
     obtain ⟨z1,z2,z3,z4⟩:=hlf (Res.obj 0 (aEf p.2.2.1)) (Res.obj 0 (aRg p.2.1))
     exact hN _ _ ⟨σ2.length+1,σ2.length,by push_cast (maxSteps:=999999) -implicitDefEqProofs (disch:=omega)[hρ,List.length_append],z2,z1,by omega,Q91 _ _ _,Q90 _ _ _,z3,z4⟩
    ·refine Qb ?_
     push_cast (maxSteps:=999999) -implicitDefEqProofs (disch:=omega)[hcs,hap,hap2,g2,g8,List.length_append]
     refine Q1 hDo ?_
     rintro a rfl
     push_cast (maxSteps:=999999) -implicitDefEqProofs (disch:=omega)[aDo,aInt,hap,hap2,g2,g8,List.length_append]
     refine Q8 (cs:=aRg z8) (Q18 _) rfl (Q16 _ _ _) (by decide) ?_
     rw[hset8]
     push_cast (maxSteps:=999999) -implicitDefEqProofs (disch:=omega)[List.length_append]
     refine Q8 (cs:=aEf ef0) rfl rfl (Q4 (by omega) (Q17 _ _ _)) (by decide) ?_
     rw[hset5,lea10]
     push_cast (maxSteps:=999999) -implicitDefEqProofs (disch:=omega)
     obtain ⟨z1,z2,z3,z4⟩:=hlf (Res.obj 0 (aEf p.2.2.1)) (Res.obj 0 (aRg p.2.1))
     exact hN _ _ ⟨σ2.length+1,σ2.length,by push_cast (maxSteps:=999999) -implicitDefEqProofs (disch:=omega)[hρ,List.length_append],z2,z1,by omega,Q91 _ _ _,Q90 _ _ _,z3,z4⟩
   ·refine Qb ?_
    push_cast (maxSteps:=999999) -implicitDefEqProofs (disch:=omega)[hcs,hap,hap2,g2,g8,List.length_append]
    refine Q0 (((h.app _).app _).Code_a g.fn g.pc) ?_
    rintro a σ' ⟨rfl,hs⟩
    rw[hs];clear hs
    push_cast (maxSteps:=999999) -implicitDefEqProofs (disch:=omega)[hcs,hap,hap2,g2,g8,List.length_append]
    refine Q1 hDo ?_
    rintro a rfl
    push_cast (maxSteps:=999999) -implicitDefEqProofs (disch:=omega)[aDo,aInt,hap,hap2,g2,g8,List.length_append]
    refine Q8 (cs:=aRg z8) (Q18 _) rfl (Q16 _ _ _) (by decide) ?_
    rw[hset8]
    push_cast (maxSteps:=999999) -implicitDefEqProofs (disch:=omega)[List.length_append]
    refine Q8 (cs:=aEf ef0) rfl rfl (Q4 (by omega) (Q17 _ _ _)) (by decide) ?_
    rw[hset5,lea10]
    push_cast (maxSteps:=999999) -implicitDefEqProofs (disch:=omega)
    obtain ⟨z1,z2,z3,z4⟩:=hlf (Res.obj 0 (aEf p.2.2.1)) (Res.obj 0 (aRg p.2.1))
    exact hN _ _ ⟨σ2.length+1,σ2.length,by push_cast (maxSteps:=999999) -implicitDefEqProofs (disch:=omega)[hρ,List.length_append],z2,z1,by omega,Q91 _ _ _,Q90 _ _ _,z3,z4⟩
 clear hρ ε hf h hDo gg g1 g2 g8 gA gB hcs hil hset8 hset5 cs σ2
 rintro ε σ3 ⟨i4,i5,hρ,n4,n5,n6,k4,k5,h,hf⟩
 obtain ⟨pc',rs,e,ft⟩:=p
 simp only at hρ k4 k5 hdl
 obtain ⟨cs,hcs,gg,g8,_,_⟩:=hf.get
 have g12:=gg 12 _ rfl
 obtain ⟨e0,e1,e2,e3⟩:=ef_i e
 have c8:cellsA (some 8) (aRg rs)=some (.agg (aRg rs)):=rfl
 have c5:cellsA (some 5) (aEf e)=some (.agg (aEf e)):=rfl
 unfold instrF
 simp only
 push_cast (maxSteps:=999999) -implicitDefEqProofs (disch:=omega)[hρ,k5,c5]
 refine Q1 (step_Ends_a e) ?_
 rintro a rfl
 by_cases cD:endsE e=true∧g.dirty=true
 ·rw[if_pos cD]
  rw[cD.2] at g12
  have hw:=h.wk
  have ⟨b1,b2⟩:=ZC h.mm.sd.ok h.mm.sd.ws y.1.holds
  push_cast (maxSteps:=999999) -implicitDefEqProofs (disch:=omega)[aBool,cD.1,hρ,hcs,g12,hw]
  refine Q0 h.Words_a ?_
  rintro a σ' ⟨rfl,hs⟩
  rw[hs];clear hs
  push_cast (maxSteps:=999999) -implicitDefEqProofs (disch:=omega)[hw,hρ]
  refine Q0 h.Plan_a ?_
  rintro a σ' ⟨rfl,hs⟩
  rw[hs];clear hs
  push_cast (maxSteps:=999999) -implicitDefEqProofs (disch:=omega)[hw,hρ]
  refine Q1 (Ql h.mm.sd.ok _) ?_
  rintro a rfl
  push_cast (maxSteps:=999999) -implicitDefEqProofs (disch:=omega)[aInt,hw,hρ]
  refine Q0 (Z29 h.mm.words b1 (by omega)) ?_
  rintro a σ1 ⟨rfl,hs1⟩
  obtain ⟨h1,X1⟩:=h.setW (ws:=(joinLeave y.2.ws (q.frame y.1.holds)).2) (Z93 _ _ _)
  rw[←hs1] at h1 X1
  clear hs1
  cases c:(joinLeave y.2.ws (q.frame y.1.holds)).1 with
  | true=>
   rw[if_pos rfl]
   push_cast (maxSteps:=999999) -implicitDefEqProofs (disch:=omega)[aBool,hρ]
   refine Qd h1 rfl rfl (by decide) (wst1 _ _ _ _) ⟨rfl,rfl,rfl,rfl,rfl⟩ ?_
   intro σ2 h2 X2
   push_cast (maxSteps:=999999) -implicitDefEqProofs (disch:=omega)
   exact ⟨_,h2⟩
  | false=>
   rw[if_neg (by decide)]
   push_cast (maxSteps:=999999) -implicitDefEqProofs (disch:=omega)[aBool,hρ]
   refine Q5 h1 (X29 h1.re) ?_
   intro a pl2 σ2 h2 X2
   push_cast (maxSteps:=999999) -implicitDefEqProofs (disch:=omega)
   exact ⟨_,h2⟩
 rw[if_neg cD]
 cases cE:endsE e with
 | false=>
  push_cast (maxSteps:=999999) -implicitDefEqProofs (disch:=omega)[aBool,hρ]
  by_cases cf:ft≠0
  ·rw[if_pos cf]
   push_cast (maxSteps:=999999) -implicitDefEqProofs (disch:=omega)[hρ,cf]
   refine Q5 h (h.re.Stop_a 4 ft) ?_
   intro a pl2 σ4 h4 X4
   push_cast (maxSteps:=999999) -implicitDefEqProofs (disch:=omega)
   exact ⟨_,h4⟩
  rw[if_neg cf]
  have cf0:ft=0:=Classical.not_not.mp cf
  rw[cf0] at hρ
  push_cast (maxSteps:=999999) -implicitDefEqProofs (disch:=omega)[hρ,k5,c5]
  refine Q1 (JF e) ?_
  rintro a rfl
  by_cases cA:1≤e.k∧e.k≤4
  ·rw[if_pos cA,decide_eq_true cA]
   push_cast (maxSteps:=999999) -implicitDefEqProofs (disch:=omega)[aBool,hρ,k5,c5]
   refine Q0 (h.Ask_a e cA) ?_
   rintro a σ4 ⟨rfl,h4,X4⟩
   have m4:σ4[i4]?=some (.obj 0 (aRg rs)):=(X4.keep i4 (Qe k4) n4).trans k4
   have m5:σ4[i5]?=some (.obj 0 (aEf e)):=(X4.keep i5 (Qe k5) n5).trans k5
   have hf4:=hf.ext X4 h4.mm rfl rfl
   cases ca:(askD y.2.data e).2.1 with
   | false=>
    rw[if_pos rfl]
    push_cast (maxSteps:=999999) -implicitDefEqProofs (disch:=omega)[aBool,aInt,hρ]
    refine Q5 h4 (h4.re.Stop_a 4 2) ?_
    intro a pl2 σ5 h5 X5
    push_cast (maxSteps:=999999) -implicitDefEqProofs (disch:=omega)
    exact ⟨_,h5⟩
   | true=>
    rw[if_neg (by decide)]
    push_cast (maxSteps:=999999) -implicitDefEqProofs (disch:=omega)[aBool,aInt,hρ,m4,m5,c5,c8]
    refine Q1 (JG rs e (askD y.2.data e).1 hdl) ?_
    rintro a rfl
    push_cast (maxSteps:=999999) -implicitDefEqProofs (disch:=omega)[hρ]
    refine Q35 h4 hf4 (f':={ g with pc:=pc' }) hr rfl rfl (by decide) rfl ?_
    intro σ5 h5 hf5
    push_cast (maxSteps:=999999) -implicitDefEqProofs (disch:=omega)[hρ]
    refine X28 h5 hf5 (JE rs e _ hdl) ?_
    intro σ6 h6 hf6
    rw[setFr2] at h6
    push_cast (maxSteps:=999999) -implicitDefEqProofs (disch:=omega)
    exact ⟨_,h6⟩
  rw[if_neg cA,decide_eq_false cA]
  by_cases cT:e.k=5
  ·rw[if_pos cT]
   have e0':=e0
   rw[cT] at e0'
   push_cast (maxSteps:=999999) -implicitDefEqProofs (disch:=omega)[aBool,hρ,k5,e0',e2]
   refine Q0 h.Out_a ?_
   rintro a σ' ⟨rfl,hs⟩
   rw[hs];clear hs
   push_cast (maxSteps:=999999) -implicitDefEqProofs (disch:=omega)[hρ,k5,e0',e2]
   refine Q0 (J07 h.mm e.v) ?_
   rintro a σ4 hE
   cases ce:emitC q y.2 e.v with
   | none=>
    rw[ce] at hE
    obtain ⟨rfl,hs⟩:=hE
    rw[hs];clear hs
    push_cast (maxSteps:=999999) -implicitDefEqProofs (disch:=omega)[aBool,hρ]
    refine Q5 h (h.re.Stop_a 5 3) ?_
    intro a pl2 σ5 h5 X5
    push_cast (maxSteps:=999999) -implicitDefEqProofs (disch:=omega)
    exact ⟨_,h5⟩
   | some s'=>
    rw[ce] at hE
    obtain ⟨rfl,hO⟩:=hE
    obtain ⟨pl4,h4,X4⟩:=h.out hO
    have hs':s'={ y.2 with out:=y.2.out++[e.v] }:=by
     unfold emitC at ce
     split at ce
     ·cases ce
     ·cases ce;rfl
    have hf4:FP σ0.length pl4 σ4 s' y.1.holds g i off:=hf.ext X4 h4.mm (by rw[hs']) (by rw[hs'])
    push_cast (maxSteps:=999999) -implicitDefEqProofs (disch:=omega)[aBool,hρ]
    refine Q35 h4 hf4 (f':={ g with pc:=pc' }) hr rfl rfl (by decide) rfl ?_
    intro σ5 h5 hf5
    push_cast (maxSteps:=999999) -implicitDefEqProofs (disch:=omega)
    exact ⟨_,h5⟩
  rw[if_neg cT]
  by_cases c07:e.k=0∨e.k=7
  ·rw[if_pos c07]
   have hfin:∀K:AV→Kx.St→Prop,(∀σ',WM q L k jw jc pl0 σ0 pl1 σ' (y.1,y.2.setFr y.1.holds { g with pc:=pc',regs:=rs })→act (K (.v undef) σ'))→∀σ5,WM q L k jw jc pl0 σ0 pl1 σ5 (y.1,y.2.setFr y.1.holds { g with pc:=pc' })→FP σ0.length pl1 σ5 (y.2.setFr y.1.holds { g with pc:=pc' }) y.1.holds { g with pc:=pc' } i off→act (EF.awp Tryz.prog (.st 8) [.ref i 0 (off+3),.agg (aRg rs)] σ5 K):=by
    intro K hK σ5 h5 hf5
    refine X28 h5 hf5 hdl ?_
    intro σ6 h6 hf6
    rw[setFr2] at h6
    exact hK _ h6
   by_cases c0:e.k=0
   ·have e0':=e0
    rw[c0] at e0'
    push_cast (maxSteps:=999999) -implicitDefEqProofs (disch:=omega)[aBool,hρ,k5,e0',k4,c8]
    refine Je h hf (f':={ g with pc:=pc' }) hr rfl rfl (by decide) rfl ?_
    intro σ5 h5 hf5 hk5
    have m4:=(hk5 i4 n6).trans k4
    push_cast (maxSteps:=999999) -implicitDefEqProofs (disch:=omega)[hρ,m4,c8]
    refine hfin _ ?_ σ5 h5 hf5
    intro σ6 h6
    push_cast (maxSteps:=999999) -implicitDefEqProofs (disch:=omega)
    exact ⟨_,h6⟩
   ·have c7:e.k=7:=c07.resolve_left c0
    have e0':=e0
    rw[c7] at e0'
    push_cast (maxSteps:=999999) -implicitDefEqProofs (disch:=omega)[aBool,hρ,k5,e0',k4,c8]
    refine Je h hf (f':={ g with pc:=pc' }) hr rfl rfl (by decide) rfl ?_
    intro σ5 h5 hf5 hk5
    have m4:=(hk5 i4 n6).trans k4
    push_cast (maxSteps:=999999) -implicitDefEqProofs (disch:=omega)[hρ,m4,c8]
    refine hfin _ ?_ σ5 h5 hf5
    intro σ6 h6
    push_cast (maxSteps:=999999) -implicitDefEqProofs (disch:=omega)
    exact ⟨_,h6⟩
  rw[if_neg c07]
  have c0:e.k≠0:=fun c=>c07 (.inl c)
  have c7:e.k≠7:=fun c=>c07 (.inr c)
  push_cast (maxSteps:=999999) -implicitDefEqProofs (disch:=omega)[aBool,hρ,k5,e0,cT,c0,c7,c5]
  refine Q0 (w_turn_a h hbk' hF' hf hr pc' e) ?_
  rintro a σ4 ⟨pl4,h4⟩
  push_cast (maxSteps:=999999) -implicitDefEqProofs (disch:=omega)
  exact ⟨_,h4⟩
 | true=>
  have cd:g.dirty=false:=by
   cases c:g.dirty with
   | false=>rfl
   | true=>exact absurd ⟨cE,c⟩ cD
  rw[cd] at g12
  push_cast (maxSteps:=999999) -implicitDefEqProofs (disch:=omega)[aBool,hρ,hcs,g12]
  by_cases cf:ft≠0
  ·rw[if_pos cf]
   push_cast (maxSteps:=999999) -implicitDefEqProofs (disch:=omega)[hρ,cf]
   refine Q5 h (h.re.Stop_a 4 ft) ?_
   intro a pl2 σ4 h4 X4
   push_cast (maxSteps:=999999) -implicitDefEqProofs (disch:=omega)
   exact ⟨_,h4⟩
  rw[if_neg cf]
  have cf0:ft=0:=Classical.not_not.mp cf
  rw[cf0] at hρ
  push_cast (maxSteps:=999999) -implicitDefEqProofs (disch:=omega)[hρ,k5,c5]
  refine Q1 (JF e) ?_
  rintro a rfl
  by_cases cA:1≤e.k∧e.k≤4
  ·rw[if_pos cA,decide_eq_true cA]
   push_cast (maxSteps:=999999) -implicitDefEqProofs (disch:=omega)[aBool,hρ,k5,c5]
   refine Q0 (h.Ask_a e cA) ?_
   rintro a σ4 ⟨rfl,h4,X4⟩
   have m4:σ4[i4]?=some (.obj 0 (aRg rs)):=(X4.keep i4 (Qe k4) n4).trans k4
   have m5:σ4[i5]?=some (.obj 0 (aEf e)):=(X4.keep i5 (Qe k5) n5).trans k5
   have hf4:=hf.ext X4 h4.mm rfl rfl
   cases ca:(askD y.2.data e).2.1 with
   | false=>
    rw[if_pos rfl]
    push_cast (maxSteps:=999999) -implicitDefEqProofs (disch:=omega)[aBool,aInt,hρ]
    refine Q5 h4 (h4.re.Stop_a 4 2) ?_
    intro a pl2 σ5 h5 X5
    push_cast (maxSteps:=999999) -implicitDefEqProofs (disch:=omega)
    exact ⟨_,h5⟩
   | true=>
    rw[if_neg (by decide)]
    push_cast (maxSteps:=999999) -implicitDefEqProofs (disch:=omega)[aBool,aInt,hρ,m4,m5,c5,c8]
    refine Q1 (JG rs e (askD y.2.data e).1 hdl) ?_
    rintro a rfl
    push_cast (maxSteps:=999999) -implicitDefEqProofs (disch:=omega)[hρ]
    refine Q35 h4 hf4 (f':={ g with pc:=pc' }) hr rfl rfl (by decide) rfl ?_
    intro σ5 h5 hf5
    push_cast (maxSteps:=999999) -implicitDefEqProofs (disch:=omega)[hρ]
    refine X28 h5 hf5 (JE rs e _ hdl) ?_
    intro σ6 h6 hf6
    rw[setFr2] at h6
    push_cast (maxSteps:=999999) -implicitDefEqProofs (disch:=omega)
    exact ⟨_,h6⟩
  rw[if_neg cA,decide_eq_false cA]
  by_cases cT:e.k=5
  ·rw[if_pos cT]
   have e0':=e0
   rw[cT] at e0'
   push_cast (maxSteps:=999999) -implicitDefEqProofs (disch:=omega)[aBool,hρ,k5,e0',e2]
   refine Q0 h.Out_a ?_
   rintro a σ' ⟨rfl,hs⟩
   rw[hs];clear hs
   push_cast (maxSteps:=999999) -implicitDefEqProofs (disch:=omega)[hρ,k5,e0',e2]
   refine Q0 (J07 h.mm e.v) ?_
   rintro a σ4 hE
   cases ce:emitC q y.2 e.v with
   | none=>
    rw[ce] at hE
    obtain ⟨rfl,hs⟩:=hE
    rw[hs];clear hs
    push_cast (maxSteps:=999999) -implicitDefEqProofs (disch:=omega)[aBool,hρ]
    refine Q5 h (h.re.Stop_a 5 3) ?_
    intro a pl2 σ5 h5 X5
    push_cast (maxSteps:=999999) -implicitDefEqProofs (disch:=omega)
    exact ⟨_,h5⟩
   | some s'=>
    rw[ce] at hE
    obtain ⟨rfl,hO⟩:=hE
    obtain ⟨pl4,h4,X4⟩:=h.out hO
    have hs':s'={ y.2 with out:=y.2.out++[e.v] }:=by
     unfold emitC at ce
     split at ce
     ·cases ce
     ·cases ce;rfl
    have hf4:FP σ0.length pl4 σ4 s' y.1.holds g i off:=hf.ext X4 h4.mm (by rw[hs']) (by rw[hs'])
    push_cast (maxSteps:=999999) -implicitDefEqProofs (disch:=omega)[aBool,hρ]
    refine Q35 h4 hf4 (f':={ g with pc:=pc' }) hr rfl rfl (by decide) rfl ?_
    intro σ5 h5 hf5
    push_cast (maxSteps:=999999) -implicitDefEqProofs (disch:=omega)
    exact ⟨_,h5⟩
  rw[if_neg cT]
  by_cases c07:e.k=0∨e.k=7
  ·rw[if_pos c07]
   have hfin:∀K:AV→Kx.St→Prop,(∀σ',WM q L k jw jc pl0 σ0 pl1 σ' (y.1,y.2.setFr y.1.holds { g with pc:=pc',regs:=rs })→act (K (.v undef) σ'))→∀σ5,WM q L k jw jc pl0 σ0 pl1 σ5 (y.1,y.2.setFr y.1.holds { g with pc:=pc' })→FP σ0.length pl1 σ5 (y.2.setFr y.1.holds { g with pc:=pc' }) y.1.holds { g with pc:=pc' } i off→act (EF.awp Tryz.prog (.st 8) [.ref i 0 (off+3),.agg (aRg rs)] σ5 K):=by
    intro K hK σ5 h5 hf5
    refine X28 h5 hf5 hdl ?_
    intro σ6 h6 hf6
    rw[setFr2] at h6
    exact hK _ h6
   by_cases c0:e.k=0
   ·have e0':=e0
    rw[c0] at e0'
    push_cast (maxSteps:=999999) -implicitDefEqProofs (disch:=omega)[aBool,hρ,k5,e0',k4,c8]
    refine Je h hf (f':={ g with pc:=pc' }) hr rfl rfl (by decide) rfl ?_
    intro σ5 h5 hf5 hk5
    have m4:=(hk5 i4 n6).trans k4
    push_cast (maxSteps:=999999) -implicitDefEqProofs (disch:=omega)[hρ,m4,c8]
    refine hfin _ ?_ σ5 h5 hf5
    intro σ6 h6
    push_cast (maxSteps:=999999) -implicitDefEqProofs (disch:=omega)
    exact ⟨_,h6⟩
   ·have c7:e.k=7:=c07.resolve_left c0
    have e0':=e0
    rw[c7] at e0'
    push_cast (maxSteps:=999999) -implicitDefEqProofs (disch:=omega)[aBool,hρ,k5,e0',k4,c8]
    refine Je h hf (f':={ g with pc:=pc' }) hr rfl rfl (by decide) rfl ?_
    intro σ5 h5 hf5 hk5
    have m4:=(hk5 i4 n6).trans k4
    push_cast (maxSteps:=999999) -implicitDefEqProofs (disch:=omega)[hρ,m4,c8]
    refine hfin _ ?_ σ5 h5 hf5
    intro σ6 h6
    push_cast (maxSteps:=999999) -implicitDefEqProofs (disch:=omega)
    exact ⟨_,h6⟩
  rw[if_neg c07]
  have c0:e.k≠0:=fun c=>c07 (.inl c)
  have c7:e.k≠7:=fun c=>c07 (.inr c)
  push_cast (maxSteps:=999999) -implicitDefEqProofs (disch:=omega)[aBool,hρ,k5,e0,cT,c0,c7,c5]
  refine Q0 (w_turn_a h hbk' hF' hf hr pc' e) ?_
  rintro a σ4 ⟨pl4,h4⟩
  push_cast (maxSteps:=999999) -implicitDefEqProofs (disch:=omega)
  exact ⟨_,h4⟩
end
end Go.Proofs.YtelibaobkcokdaaGreat.Mx
