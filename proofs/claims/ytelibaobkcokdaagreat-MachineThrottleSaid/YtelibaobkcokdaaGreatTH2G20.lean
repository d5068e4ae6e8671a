/- The machine: what a worker does at once. -/
import Derived.Test.YtelibaobkcokdaaGreatTH2G19
namespace Go.Proofs.YtelibaobkcokdaaGreat.Mx
set_option linter.unusedSectionVars false
set_option linter.unusedVariables false
set_option linter.unusedSimpArgs false
open Go Go.Kx Go.Proofs Go.Proofs.YtelibaobkcokdaaGreat
set_option maxRecDepth 8000
section
variable (pl:Pl) (k:Nat) (w:Wk) (q:Pm) (s:Cs)
theorem wi9s:(aWk pl k w)[8+1]?=some (.v (.bool w.gWaits)):=(rfl)
theorem wi10s:(aWk pl k w)[8+2]?=some (.v (.bool w.gLooked)):=(rfl)
theorem wi11s:(aWk pl k w)[8+3]?=some (.v (.int .i64 w.gWhy)):=(rfl)
theorem wi13s:(aWk pl k w)[12+1]?=some (.v (.bool w.eBreaks)):=(rfl)
theorem wi14s:(aWk pl k w)[12+2]?=some (.v (.int .i64 w.eRight)):=(rfl)
theorem wi15s:(aWk pl k w)[12+3]?=some (.v (.bool w.eWoken)):=(rfl)
theorem co14s:(aCore q pl s)[13+1]?=some (.v (.int .i64 s.probes)):=(rfl)
theorem co15s:(aCore q pl s)[13+2]?=some (.v (.int .i64 s.steals)):=(rfl)
theorem co16s:(aCore q pl s)[13+3]?=some (.v (.int .i64 s.parks)):=(rfl)
theorem co17s:(aCore q pl s)[13+4]?=some (.v (.int .i64 s.naps)):=(rfl)
theorem co18s:(aCore q pl s)[13+5]?=some (.v (.int .i64 s.folds)):=(rfl)
end
attribute [push_cast] wi9s wi10s wi11s wi13s wi14s wi15s co14s co15s co16s co17s co18s
section
variable {q:Pm} {L:List Wk} {k jw jc:Nat} {pl0 pl:Pl} {σ0 σ:Kx.St} {x:WC}
theorem X97 (c st:Int):FnP Tryz.prog 175 [.v (.int .i64 c),.v (.int .i64 st)] fun a=>a=aBool (decide (st < c)):=by refine Qj X68.2 mixed rfl (by simp[AV.pureL,AV.pure]) ?_;simp only[X68,qH];push_cast -implicitDefEqProofs[aBool];exact oo
theorem Z41 (h:WM q L k jw jc pl0 σ0 pl σ x) (id:Int):FnG Tryz.prog 49 [.ref jw 0 0,.v (.int .i64 id)] σ fun _ σ'=>∃pl',WM q L k jw jc pl0 σ0 pl' σ' (x.1.runs id,x.2):=by refine Q3 Z0.2 mixed rfl ?_;simp only[Z0,qH];push_cast -implicitDefEqProofs;refine Qf h rfl rfl ko (wst2 _ _ _ _) ⟨rfl,rfl,rfl,rfl,rfl⟩ ?_;intro σ1 h1 X1;push_cast -implicitDefEqProofs;refine Qf h1 rfl rfl ko (wst1 _ _ _ _) ⟨rfl,rfl,rfl,rfl,rfl⟩ ?_;intro σ2 h2 X2;push_cast -implicitDefEqProofs;exact ⟨_,h2⟩
theorem Y03 (h:WM q L k jw jc pl0 σ0 pl σ x) (id:Int):FnG Tryz.prog 219 [.ref jw 0 0,.v (.int .i64 id)] σ fun _ σ'=>∃pl',WM q L k jw jc pl0 σ0 pl' σ' (x.1.loops id,x.2):=by refine Q3 Q88.2 mixed rfl ?_;simp only[Q88,qH];push_cast -implicitDefEqProofs;refine Qf h rfl rfl ko (wst2 _ _ _ _) ⟨rfl,rfl,rfl,rfl,rfl⟩ ?_;intro σ1 h1 X1;push_cast -implicitDefEqProofs;refine Qf h1 rfl rfl ko (wst1 _ _ _ _) ⟨rfl,rfl,rfl,rfl,rfl⟩ ?_;intro σ2 h2 X2;push_cast -implicitDefEqProofs;exact ⟨_,h2⟩
theorem XB (h:WM q L k jw jc pl0 σ0 pl σ x) (id:Int):FnG Tryz.prog 143 [.ref jw 0 0,.ref jc 0 0,.v (.int .i64 id)] σ fun _ σ'=>∃pl',WM q L k jw jc pl0 σ0 pl' σ' (x.1.takes x.2 id,x.2):=by
 refine Q3 Q83.2 mixed rfl ?_;simp only[Q83,qH];push_cast -implicitDefEqProofs;refine Q4 h.Frames_a ?_;push_cast -implicitDefEqProofs;refine Q4 (Y51 h.mm id) ?_
 cases c:x.2.isHeld id with
 | false=>have e:x.1.takes x.2 id=x.1.runs id:=if_neg (by simp[c]);rw[e];push_cast -implicitDefEqProofs;refine Q7 h (Z41 h.re id) ?_;intro a pl1 σ1 h1 X1;push_cast -implicitDefEqProofs;exact ⟨_,h1⟩
 | true=>
  have hf:=h.mm.fp σ.length c;obtain ⟨cs,hcs,g,g8,g19,_⟩:=hf.get;have g0:=g 0 _ rfl;rw[Nat.add_zero] at g0;by_cases c2:(x.2.at id).kind=3
  ·have e:x.1.takes x.2 id=x.1.loops id:=if_pos ⟨c,c2⟩;rw[e];rw[c2] at g0;push_cast -implicitDefEqProofs[hcs,g0,Nat.add_zero];refine Q7 h (Y03 h.re id) ?_;intro a pl1 σ1 h1 X1;push_cast -implicitDefEqProofs;exact ⟨_,h1⟩
  ·have e:x.1.takes x.2 id=x.1.runs id:=if_neg (by simp[c2]);rw[e];push_cast -implicitDefEqProofs[hcs,g0,Nat.add_zero,c2];refine Q7 h (Z41 h.re id) ?_;intro a pl1 σ1 h1 X1;push_cast -implicitDefEqProofs;exact ⟨_,h1⟩
theorem Y04 (h:WM q L k jw jc pl0 σ0 pl σ x) {P:Program} {K:AV→Kx.St→Prop} {d:Dq} (hok:DqOk q d) (hk:∀pl' σ',WM q L k jw jc pl0 σ0 pl' σ' ({ x.1 with dq:=some d },x.2)→Ext pl pl' σ σ'→act (K (.v undef) σ')):act (EF.awp P (.st 1) [.ref jw 0 5,.ref σ.length 0 0] (σ++[.obj 0 (aDq q σ.length d)]) K):=by refine Q9 rfl rfl (Qn h.wk) (by rw[X01];decide) ?_;obtain ⟨h1,h2⟩:=h.mm.new_dq h.hk d hok;rw[List.set_set,h.ew] at h1;rw[h.ew] at h2;exact hk _ _ ⟨h1,h.kl,(h2.fix _ rfl).trans h.ew,(h2.fix _ rfl).trans h.ec,h.ex.trans h2⟩ h2
theorem wpa_newright (h:WM q L k jw jc pl0 σ0 pl σ x) {P:Program} {K:AV→Kx.St→Prop} {d:Rt} (hk:∀pl' σ',WM q L k jw jc pl0 σ0 pl' σ' ({ x.1 with right:=some d },x.2)→Ext pl pl' σ σ'→act (K (.v undef) σ')):act (EF.awp P (.st 1) [.ref jw 0 16,.ref σ.length 0 0] (σ++[.obj 0 (aRt q d)]) K):=by refine Q9 rfl rfl (Qn h.wk) (by rw[X01];decide) ?_;obtain ⟨h1,h2⟩:=h.mm.new_right h.hk d;rw[List.set_set,h.ew] at h1;rw[h.ew] at h2;exact hk _ _ ⟨h1,h.kl,(h2.fix _ rfl).trans h.ew,(h2.fix _ rfl).trans h.ec,h.ex.trans h2⟩ h2
theorem wpa_newpark (h:WM q L k jw jc pl0 σ0 pl σ x) {P:Program} {K:AV→Kx.St→Prop} {d:Pk} (hk:∀pl' σ',WM q L k jw jc pl0 σ0 pl' σ' ({ x.1 with park:=some d },x.2)→Ext pl pl' σ σ'→act (K (.v undef) σ')):act (EF.awp P (.st 1) [.ref jw 0 17,.ref σ.length 0 0] (σ++[.obj 0 (aPk q d)]) K):=by refine Q9 rfl rfl (Qn h.wk) (by rw[X01];decide) ?_;obtain ⟨h1,h2⟩:=h.mm.new_park h.hk d;rw[List.set_set,h.ew] at h1;rw[h.ew] at h2;exact hk _ _ ⟨h1,h.kl,(h2.fix _ rfl).trans h.ew,(h2.fix _ rfl).trans h.ec,h.ex.trans h2⟩ h2
theorem wpa_newwake (h:WM q L k jw jc pl0 σ0 pl σ x) {P:Program} {K:AV→Kx.St→Prop} {d:Tw} (hk:∀pl' σ',WM q L k jw jc pl0 σ0 pl' σ' ({ x.1 with wake:=some d },x.2)→Ext pl pl' σ σ'→act (K (.v undef) σ')):act (EF.awp P (.st 1) [.ref jw 0 18,.ref σ.length 0 0] (σ++[.obj 0 (aTw q d [.v (.bool d.looks)])]) K):=by refine Q9 rfl rfl (Qn h.wk) (by rw[X01];decide) ?_;obtain ⟨h1,h2⟩:=h.mm.new_wake h.hk d;rw[List.set_set,h.ew] at h1;rw[h.ew] at h2;exact hk _ _ ⟨h1,h.kl,(h2.fix _ rfl).trans h.ew,(h2.fix _ rfl).trans h.ec,h.ex.trans h2⟩ h2
theorem wpa_newnap (h:WM q L k jw jc pl0 σ0 pl σ x) {P:Program} {K:AV→Kx.St→Prop} {d:Tw} (hk:∀pl' σ',WM q L k jw jc pl0 σ0 pl' σ' ({ x.1 with nap:=some d },x.2)→Ext pl pl' σ σ'→act (K (.v undef) σ')):act (EF.awp P (.st 1) [.ref jw 0 19,.ref σ.length 0 0] (σ++[.obj 0 (aTw q d [])]) K):=by refine Q9 rfl rfl (Qn h.wk) (by rw[X01];decide) ?_;obtain ⟨h1,h2⟩:=h.mm.new_nap h.hk d;rw[List.set_set,h.ew] at h1;rw[h.ew] at h2;exact hk _ _ ⟨h1,h.kl,(h2.fix _ rfl).trans h.ew,(h2.fix _ rfl).trans h.ec,h.ex.trans h2⟩ h2
theorem XN (h:WM q L k jw jc pl0 σ0 pl σ x):FnG Tryz.prog 154 [.ref jw 0 0,.ref jc 0 0] σ fun _ σ'=>∃pl',WM q L k jw jc pl0 σ0 pl' σ' (x.1.goes,x.2):=by refine Q3 Z5.2 mixed rfl ?_;simp only[Z5,qH];push_cast -implicitDefEqProofs;refine Qf h rfl rfl ko (wst2 _ _ _ _) ⟨rfl,rfl,rfl,rfl,rfl⟩ ?_;intro σ1 h1 X1;push_cast -implicitDefEqProofs;refine Qf h1 rfl rfl ko (wst1 _ _ _ _) ⟨rfl,rfl,rfl,rfl,rfl⟩ ?_;intro σ2 h2 X2;have hw:=h2.wk;push_cast -implicitDefEqProofs[hw];refine Q4 h2.Plan_a ?_;push_cast -implicitDefEqProofs[hw];refine Q4 (dq_Pop_a q σ2 x.1.own x.1.tail) ?_;push_cast -implicitDefEqProofs;refine Y04 h2 (.inl rfl) ?_;intro pl3 σ3 h3 X3;push_cast -implicitDefEqProofs;exact ⟨_,h3⟩
theorem ZC (h:WM q L k jw jc pl0 σ0 pl σ x) (id:Int) (th:Th):FnG Tryz.prog 162 [.ref jw 0 0,.ref jc 0 0,.v (.int .i64 id),aTh jw th] σ fun _ σ'=>∃pl',WM q L k jw jc pl0 σ0 pl' σ' (x.1.pushes id th,x.2):=by refine Q3 Q57.2 mixed rfl ?_;simp only[Q57,qH];have hw:=h.wk;push_cast -implicitDefEqProofs[hw];refine Q4 h.Plan_a ?_;push_cast -implicitDefEqProofs[hw];refine Q4 (dq_Push_a q σ x.1.own x.1.tail id) ?_;push_cast -implicitDefEqProofs;refine Y04 h (.inl rfl) ?_;intro pl1 σ1 h1 X1;push_cast -implicitDefEqProofs;refine Qf h1 (aTh_one jw th).1 (aTh_one jw th).2 ko (w':={ x.1 with dq:=some (dqPush x.1.own x.1.tail id),th:=th }) (by rw[←h1.ew];rfl) ⟨rfl,rfl,rfl,rfl,rfl⟩ ?_;intro σ2 h2 X2;push_cast -implicitDefEqProofs;refine Qf h2 rfl rfl ko (wst1 _ _ _ _) ⟨rfl,rfl,rfl,rfl,rfl⟩ ?_;intro σ3 h3 X3;push_cast -implicitDefEqProofs;exact ⟨_,h3⟩
theorem Y91 (h:WM q L k jw jc pl0 σ0 pl σ x):FnG Tryz.prog 176 [.ref jw 0 0,.ref jc 0 0] σ fun _ σ'=>∃pl',WM q L k jw jc pl0 σ0 pl' σ' (dueF x):=by refine Q3 ZT.2 mixed rfl ?_;simp only[ZT,qH];push_cast -implicitDefEqProofs;refine Q0 h.frame_a ?_;rintro a σ1 ⟨⟨i,off,rfl,hf⟩,h1,X1⟩;push_cast -implicitDefEqProofs;refine Q43 h1 hf (f':={ x.2.at x.1.holds with due:=true }) (Y23 h1.mm _) rfl rfl ko rfl ?_;intro σ2 h2 hf2;push_cast -implicitDefEqProofs;refine Qf h2 rfl rfl ko (wst1 _ _ _ _) ⟨rfl,rfl,rfl,rfl,rfl⟩ ?_;intro σ3 h3 X3;push_cast -implicitDefEqProofs;exact ⟨_,h3⟩
theorem Q21 (h:WM q L k jw jc pl0 σ0 pl σ x) (id:Int):FnG Tryz.prog 164 [.ref jc 0 0,.v (.int .i64 id)] σ fun a σ'=>a=.agg (aRr q (ringF x.2 id))∧WM q L k jw jc pl0 σ0 pl σ' x∧Ext pl pl σ σ':=by
 refine Q3 XA.2 mixed rfl ?_;simp only[XA,qH];have hs:∀r,setAtA [AV.v (.int .i64 0),AV.v (.int .i64 0),AV.v (.int .i64 0),AV.v (.int .i64 0),AV.v (.int .i64 0),AV.v (.int .i64 0)] 0 (aRr q r)=aRr q r:=fun r=>rfl;push_cast -implicitDefEqProofs;refine Qm ?_;push_cast -implicitDefEqProofs;refine Q4 (h.app _).Plan_a ?_;push_cast -implicitDefEqProofs;refine Q0 ((h.app _).at_a id) ?_;rintro a σ1 ⟨⟨i,off,rfl,hf⟩,h1,X1⟩;obtain ⟨cs,hcs,g,g8,g19,_⟩:=hf.get;have g18:=g 18 _ rfl;have hz:σ1[σ.length]?=some (.obj 0 [AV.v (.int .i64 0),AV.v (.int .i64 0),AV.v (.int .i64 0),AV.v (.int .i64 0),AV.v (.int .i64 0),AV.v (.int .i64 0)]):=by rw[X1.keep σ.length ke fun ro=>by have:=h.mm.lt ro;omega];exact Qe _ _
 push_cast -implicitDefEqProofs[hcs,g18];refine Q0 (ring_New_a q σ1 id (x.2.at id).serial) ?_;rintro a σ' ⟨rfl,hs'⟩;rw[hs'];clear hs';push_cast -implicitDefEqProofs;refine Qd (cs:=[AV.v (.int .i64 0),.v (.int .i64 0),.v (.int .i64 0),.v (.int .i64 0),.v (.int .i64 0),.v (.int .i64 0)]) rfl rfl hz ke ?_;rw[hs];have hz2:=Qb (o:=Res.obj 0 (aRr q ⟨id,(x.2.at id).serial⟩)) hz;push_cast -implicitDefEqProofs[hz2];have hlr:∀ro,pl.p ro≠σ.length:=fun ro=>by have:=h.mm.lt ro;omega
 have hm1:=h1.mm;refine ⟨rfl,⟨⟨fun ro r er=>?_,hm1.inj,hm1.sd,fun ro=>by have:=hm1.lt ro;simpa using this⟩,h.kl,h.ew,h.ec,?_⟩,?_⟩
 ·rw[List.getElem?_set_ne (hlr ro).symm];exact hm1.at_ ro r er
 ·have h0:=h.ex.len;refine ⟨by have:=h1.ex.len;simpa using this,fun j hj hp=>?_,h1.ex.new,h1.ex.fix⟩;rw[List.getElem?_set_ne ka];exact h1.ex.keep j hj hp
 ·have h0:=X1.len;simp only[List.length_append,List.length_singleton] at h0;refine ⟨by simp;omega,fun j hj hp=>?_,fun _=>.inl rfl,fun _ _=>rfl⟩;rw[List.getElem?_set_ne ka,X1.keep j eG hp,List.getElem?_append_left hj]
theorem WM.Note_a (h:WM q L k jw jc pl0 σ0 pl σ x) (hb:x.2.log.length≤1000000000) (e:Vt):FnG Tryz.prog 148 [.ref (pl.p .lo) 0 0,.agg (aVt e)] σ fun _ σ'=>∃pl',WM q L k jw jc pl0 σ0 pl' σ' (x.1,x.2.note e):=
 FnG.mono (log_Note_a h.mm hb e) fun _ σ' o=>by obtain ⟨pl',h',_⟩:=h.out o;exact ⟨pl',h'⟩
theorem X33 (h:WM q L k jw jc pl0 σ0 pl σ x) (hb:x.2.log.length≤1000000000) (kd:Int):FnG Tryz.prog 166 [.ref jw 0 0,.ref jc 0 0,.v (.int .i64 kd)] σ fun _ σ'=>∃pl',WM q L k jw jc pl0 σ0 pl' σ' (noteF x kd):=by
 refine Q3 Z7.2 mixed rfl ?_;simp only[Z7,qH];push_cast -implicitDefEqProofs;refine Q0 h.frame_a ?_;rintro a σ1 ⟨⟨i,off,rfl,hf⟩,h1,X1⟩;obtain ⟨cs,hcs,g,g8,g19,_⟩:=hf.get;have g11:=g 11 _ rfl;have g14:=g 14 _ rfl;have g15:=g 15 _ rfl;push_cast -implicitDefEqProofs[hcs,g11,g14,g15];refine Q4 h1.Log_a ?_;push_cast -implicitDefEqProofs[hcs,g11,g14,g15];refine Q0 (h1.at_a (x.2.at x.1.holds).parent) ?_;rintro a σ2 ⟨⟨i2,off2,rfl,hf2⟩,h2,X2⟩;have hf1:=hf.ext X2 h2.mm rfl rfl;obtain ⟨cs',hcs',g',_,_,_⟩:=hf1.get;obtain ⟨cs2,hcs2,g2,_,_,_⟩:=hf2.get;have k18:=g2 18 _ rfl;have k14:=g' 14 _ rfl;have k15:=g' 15 _ rfl;have hb4:fillA [AV.v (.int .i64 0),AV.v (.int .i64 0),AV.v (.int .i64 0),AV.v (.int .i64 0)] [(0,1),(1,1),(2,1),(3,1)] [.v (.int .i64 kd),.v (.int .i64 (x.2.at (x.2.at x.1.holds).parent).serial),.v (.int .i64 (x.2.at x.1.holds).index),.v (.int .i64 (x.2.at x.1.holds).stage)]=some (aVt ⟨kd,(x.2.at (x.2.at x.1.holds).parent).serial,(x.2.at x.1.holds).index,(x.2.at x.1.holds).stage⟩):=by simp[fillA,AV.cells,Value.cells,setAtA,aVt]
 push_cast -implicitDefEqProofs[hcs',hcs2,k18,k14,k15,hb4];refine Q7 h2 (h2.re.Note_a hb _) ?_;intro a pl3 σ3 h3 X3;push_cast -implicitDefEqProofs;exact ⟨_,h3⟩
theorem XO (h:WM q L k jw jc pl0 σ0 pl σ x) (why ct:Int):FnG Tryz.prog 168 [.ref jw 0 0,.ref jc 0 0,.v (.int .i64 why),.v (.int .i64 ct)] σ fun _ σ'=>∃pl',WM q L k jw jc pl0 σ0 pl' σ' (checksF x why ct):=by refine Q3 Q58.2 mixed rfl ?_;simp only[Q58,qH];push_cast -implicitDefEqProofs;refine Q0 h.frame_a ?_;rintro a σ1 ⟨⟨i,off,rfl,hf⟩,h1,X1⟩;push_cast -implicitDefEqProofs;refine Qf h1 rfl rfl ko (wst11 _ _ _ _) ⟨rfl,rfl,rfl,rfl,rfl⟩ ?_;intro σ2 h2 X2;push_cast -implicitDefEqProofs;refine Qf h2 rfl rfl ko (wst1 _ _ _ _) ⟨rfl,rfl,rfl,rfl,rfl⟩ ?_;intro σ3 h3 X3;have hf3:=(hf.ext X2 h2.mm rfl rfl).ext X3 h3.mm rfl rfl;obtain ⟨cs,hcs,g,_,_,_⟩:=hf3.get;have g11:=g 11 _ rfl;have g14:=g 14 _ rfl;push_cast -implicitDefEqProofs[hcs,g11,g14];refine Q0 (Q21 h3 (x.2.at x.1.holds).parent) ?_;rintro a σ4 ⟨rfl,h4,X4⟩;have hf4:=hf3.ext X4 h4.mm rfl rfl;obtain ⟨cs',hcs',g',_,_,_⟩:=hf4.get;have k14:=g' 14 _ rfl;push_cast -implicitDefEqProofs[hcs',k14];refine Q4 (cross_Look_a q σ4 (ringF x.2 (x.2.at x.1.holds).parent) (x.2.at x.1.holds).index ct) ?_;push_cast -implicitDefEqProofs;refine wpa_newright h4 ?_;intro pl5 σ5 h5 X5;push_cast -implicitDefEqProofs;exact ⟨_,h5⟩
theorem X06 (h:WM q L k jw jc pl0 σ0 pl σ x):FnG Tryz.prog 167 [.ref jw 0 0,.ref jc 0 0] σ fun _ σ'=>∃pl',WM q L k jw jc pl0 σ0 pl' σ' (looksOnF q x):=by
 refine Q3 Q42.2 mixed rfl ?_;simp only[Q42,qH];push_cast -implicitDefEqProofs;refine Q4 h.Params_a ?_;have hw:=h.wk;have hfl:PF.av (.fld 6 none) [.agg (aPr q)]=some (.v (.bool q.lazy)):=rfl
 cases c:q.lazy with
 | true=>
  have e:looksOnF q x=({ x.1 with state:=10 },x.2):=by simp[looksOnF,c]
  rw[e];rw[c] at hfl;push_cast -implicitDefEqProofs[hfl];refine Qf h rfl rfl ko (wst1 _ _ _ _) ⟨rfl,rfl,rfl,rfl,rfl⟩ ?_;intro σ1 h1 X1;push_cast -implicitDefEqProofs;exact ⟨_,h1⟩
 | false=>
  have e:looksOnF q x=checksF x 0 x.1.gStage:=by simp[looksOnF,c]
  rw[e];rw[c] at hfl;push_cast -implicitDefEqProofs[hfl,hw];refine Q7 h (XO h.re 0 x.1.gStage) ?_;intro a pl1 σ1 h1 X1;push_cast -implicitDefEqProofs;exact ⟨_,h1⟩
theorem X53 (h:WM q L k jw jc pl0 σ0 pl σ x):FnG Tryz.prog 169 [.ref jw 0 0,.ref jc 0 0] σ fun _ σ'=>∃pl',WM q L k jw jc pl0 σ0 pl' σ' (decideF q x):=by
 refine Q3 Q59.2 mixed rfl ?_;simp only[Q59,qH];push_cast -implicitDefEqProofs;refine Q0 h.frame_a ?_;rintro a σ1 ⟨⟨i,off,rfl,hf⟩,h1,X1⟩;have hw:=h1.wk;obtain ⟨cs,hcs,g,_,_,_⟩:=hf.get;have g14:=g 14 _ rfl;have g16:=g 16 _ rfl;have hfl:PF.av (.fld 5 none) [.agg (aPr q)]=some (.v (.bool q.fold)):=rfl
 cases c1:x.1.gWaits with
 | false=>
  have e:decideF q x=dueF x:=by simp[decideF,c1]
  rw[e];push_cast -implicitDefEqProofs[hw,c1];refine Q7 h1 (Y91 h1.re) ?_;intro a pl2 σ2 h2 X2;push_cast -implicitDefEqProofs;exact ⟨_,h2⟩
 | true=>
  by_cases c2:(x.2.at x.1.holds).index=0
  ·have e:decideF q x=dueF x:=by simp[decideF,c2]
   rw[e];rw[c2] at g14;push_cast -implicitDefEqProofs[hw,c1,hcs,g14];refine Q7 h1 (Y91 h1.re) ?_;intro a pl2 σ2 h2 X2;push_cast -implicitDefEqProofs;exact ⟨_,h2⟩
  ·push_cast -implicitDefEqProofs[hw,c1,hcs,g14,c2];refine Q4 h1.Params_a ?_
   cases c3:q.fold with
   | false=>
    have e:decideF q x=({ x.1 with state:=12 },x.2):=by simp[decideF,c1,c2,c3]
    rw[e];rw[c3] at hfl;push_cast -implicitDefEqProofs[hfl];refine Qf h1 rfl rfl ko (wst1 _ _ _ _) ⟨rfl,rfl,rfl,rfl,rfl⟩ ?_;intro σ2 h2 X2;push_cast -implicitDefEqProofs;exact ⟨_,h2⟩
   | true=>
    rw[c3] at hfl;push_cast -implicitDefEqProofs[hfl,hw,hcs,g16];refine Q5 (X97 _ _) ?_;by_cases c4:x.1.gStage < (x.2.at x.1.holds).fold
    ·have e:decideF q x=dueF (x.1,{ x.2 with folds:=w64 (x.2.folds+1) }):=by simp[decideF,c1,c2,c3,c4]
     rw[e];push_cast -implicitDefEqProofs[aBool,c4];refine Q4 h1.Stats_a ?_;have hc:=h1.c;push_cast -implicitDefEqProofs[hc];refine X52 h1 rfl rfl ko (cos18 _ _ _ _) rfl ?_;intro σ2 h2 X2;push_cast -implicitDefEqProofs;refine Q7 h2 (Y91 h2.re) ?_;intro a pl3 σ3 h3 X3;push_cast -implicitDefEqProofs;exact ⟨_,h3⟩
    ·have e:decideF q x=({ x.1 with state:=12 },x.2):=by simp[decideF,c1,c2,c4]
     rw[e];push_cast -implicitDefEqProofs[aBool,c4];refine Qf h1 rfl rfl ko (wst1 _ _ _ _) ⟨rfl,rfl,rfl,rfl,rfl⟩ ?_;intro σ2 h2 X2;push_cast -implicitDefEqProofs;exact ⟨_,h2⟩
theorem Yf (h:WM q L k jw jc pl0 σ0 pl σ x):FnG Tryz.prog 172 [.ref jw 0 0,.ref jc 0 0] σ fun _ σ'=>∃pl',WM q L k jw jc pl0 σ0 pl' σ' (stopF x):=by refine Q3 Z8.2 mixed rfl ?_;simp only[Z8,qH];push_cast -implicitDefEqProofs;refine Q0 h.frame_a ?_;rintro a σ1 ⟨⟨i,off,rfl,hf⟩,h1,X1⟩;push_cast -implicitDefEqProofs;refine Q43 h1 hf (f':={ x.2.at x.1.holds with due:=true }) (Y23 h1.mm _) rfl rfl ko rfl ?_;intro σ2 h2 hf2;push_cast -implicitDefEqProofs;refine Q4 h2.Stats_a ?_;have hc:=h2.c;push_cast -implicitDefEqProofs[hc];refine X52 h2 rfl rfl ko (cos16 _ _ _ _) rfl ?_;intro σ3 h3 X3;have hf3:=hf2.ext X3 h3.mm rfl rfl;obtain ⟨cs,hcs,g,_,_,_⟩:=hf3.get;have g11:=g 11 _ rfl;have g14:=g 14 _ rfl;have hw3:=h3.wk;push_cast -implicitDefEqProofs[hcs,g11,g14,hw3];refine Q0 (Q21 h3 (x.2.at x.1.holds).parent) ?_;rintro a σ4 ⟨rfl,h4,X4⟩;have hf4:=hf3.ext X4 h4.mm rfl rfl;obtain ⟨cs',hcs',g',_,_,_⟩:=hf4.get;have k14:=g' 14 _ rfl;have hw4:=h4.wk;push_cast -implicitDefEqProofs[hcs',k14,hw4];refine Q4 (cross_Stop_a q σ4 _ (x.2.at x.1.holds).index x.1.gStage) ?_;push_cast -implicitDefEqProofs;refine wpa_newpark h4 ?_;intro pl5 σ5 h5 X5;have hw5:=h5.wk;push_cast -implicitDefEqProofs[hw5];refine Qf h5 rfl rfl ko (wst7 _ _ _ _) ⟨rfl,rfl,rfl,rfl,rfl⟩ ?_;intro σ6 h6 X6;push_cast -implicitDefEqProofs;refine Qf h6 rfl rfl ko (wst2 _ _ _ _) ⟨rfl,rfl,rfl,rfl,rfl⟩ ?_;intro σ7 h7 X7;push_cast -implicitDefEqProofs;refine Qf h7 rfl rfl ko (wst1 _ _ _ _) ⟨rfl,rfl,rfl,rfl,rfl⟩ ?_;intro σ8 h8 X8;push_cast -implicitDefEqProofs;exact ⟨_,h8⟩
end
section
variable {q:Pm} {L:List Wk} {k jw jc:Nat} {pl0 pl:Pl} {σ0 σ:Kx.St} {x:WC} {s:Cs}
theorem MM.set_dq (h:MM q pl σ L s) {w:Wk} (hk:L[k]?=some w) {d0:Dq} (hd:w.dq=some d0) (d:Dq) (hok:DqOk q d):MM q pl (σ.set (pl.p (.dq k)) (Res.obj 0 (aDq q (pl.p (.dq k)) d))) (L.set k { w with dq:=some d }) s:=by
 have hkl:=Qh hk;have hself:(L.set k { w with dq:=some d })[k]?=some { w with dq:=some d }:=List.getElem?_set_self hkl;refine h.upd1 rfl (by simp[img,hk,hd]) eo (fun ro hro=>?_) ⟨h.sd.ok,h.sd.ws,h.sd.fr,h.sd.hl,h.sd.rg,h.sd.bk,h.sd.ib,h.sd.f0,h.sd.o0,h.sd.l0,h.sd.ol,h.sd.dt,fun j v e hv he=>?_,h.sd.fs⟩
 ·cases ro with
  | wk j=>
   by_cases hj:k=j
   ·subst hj;simp only[img,hself,hk,Option.map_some,aWk,hd,aPtr]
   ·simp only[img,List.getElem?_set_ne hj]
  | dq j|rt j|pk j|wa j|np j=>
   by_cases hj:k=j
   ·subst hj;first|exact absurd rfl hro|(simp only[img,hself,hk,Option.bind_some])
   ·simp only[img,List.getElem?_set_ne hj]
  | _=>rfl
 ·by_cases hj:k=j
  ·subst hj;rw[hself] at hv;cases hv;exact (by cases he;exact hok)
  ·rw[List.getElem?_set_ne hj] at hv;exact h.sd.dq j v e hv he
theorem MM.set_right (h:MM q pl σ L s) {w:Wk} (hk:L[k]?=some w) {d0:Rt} (hd:w.right=some d0) (d:Rt):MM q pl (σ.set (pl.p (.rt k)) (Res.obj 0 (aRt q d))) (L.set k { w with right:=some d }) s:=by
 have hkl:=Qh hk;have hself:(L.set k { w with right:=some d })[k]?=some { w with right:=some d }:=List.getElem?_set_self hkl;refine h.upd1 rfl (by simp[img,hk,hd]) eo (fun ro hro=>?_) ⟨h.sd.ok,h.sd.ws,h.sd.fr,h.sd.hl,h.sd.rg,h.sd.bk,h.sd.ib,h.sd.f0,h.sd.o0,h.sd.l0,h.sd.ol,h.sd.dt,fun j v e hv he=>?_,h.sd.fs⟩
 ·cases ro with
  | wk j=>
   by_cases hj:k=j
   ·subst hj;simp only[img,hself,hk,Option.map_some,aWk,hd,aPtr]
   ·simp only[img,List.getElem?_set_ne hj]
  | dq j|rt j|pk j|wa j|np j=>
   by_cases hj:k=j
   ·subst hj;first|exact absurd rfl hro|(simp only[img,hself,hk,Option.bind_some])
   ·simp only[img,List.getElem?_set_ne hj]
  | _=>rfl
 ·by_cases hj:k=j
  ·subst hj;rw[hself] at hv;cases hv;exact h.sd.dq k w e hk he
  ·rw[List.getElem?_set_ne hj] at hv;exact h.sd.dq j v e hv he
theorem MM.set_park (h:MM q pl σ L s) {w:Wk} (hk:L[k]?=some w) {d0:Pk} (hd:w.park=some d0) (d:Pk):MM q pl (σ.set (pl.p (.pk k)) (Res.obj 0 (aPk q d))) (L.set k { w with park:=some d }) s:=by
 have hkl:=Qh hk;have hself:(L.set k { w with park:=some d })[k]?=some { w with park:=some d }:=List.getElem?_set_self hkl;refine h.upd1 rfl (by simp[img,hk,hd]) eo (fun ro hro=>?_) ⟨h.sd.ok,h.sd.ws,h.sd.fr,h.sd.hl,h.sd.rg,h.sd.bk,h.sd.ib,h.sd.f0,h.sd.o0,h.sd.l0,h.sd.ol,h.sd.dt,fun j v e hv he=>?_,h.sd.fs⟩
 ·cases ro with
  | wk j=>
   by_cases hj:k=j
   ·subst hj;simp only[img,hself,hk,Option.map_some,aWk,hd,aPtr]
   ·simp only[img,List.getElem?_set_ne hj]
  | dq j|rt j|pk j|wa j|np j=>
   by_cases hj:k=j
   ·subst hj;first|exact absurd rfl hro|(simp only[img,hself,hk,Option.bind_some])
   ·simp only[img,List.getElem?_set_ne hj]
  | _=>rfl
 ·by_cases hj:k=j
  ·subst hj;rw[hself] at hv;cases hv;exact h.sd.dq k w e hk he
  ·rw[List.getElem?_set_ne hj] at hv;exact h.sd.dq j v e hv he
theorem MM.set_wake (h:MM q pl σ L s) {w:Wk} (hk:L[k]?=some w) {d0:Tw} (hd:w.wake=some d0) (d:Tw):MM q pl (σ.set (pl.p (.wa k)) (Res.obj 0 (aTw q d [.v (.bool d.looks)]))) (L.set k { w with wake:=some d }) s:=by
 have hkl:=Qh hk;have hself:(L.set k { w with wake:=some d })[k]?=some { w with wake:=some d }:=List.getElem?_set_self hkl;refine h.upd1 rfl (by simp[img,hk,hd]) eo (fun ro hro=>?_) ⟨h.sd.ok,h.sd.ws,h.sd.fr,h.sd.hl,h.sd.rg,h.sd.bk,h.sd.ib,h.sd.f0,h.sd.o0,h.sd.l0,h.sd.ol,h.sd.dt,fun j v e hv he=>?_,h.sd.fs⟩
 ·cases ro with
  | wk j=>
   by_cases hj:k=j
   ·subst hj;simp only[img,hself,hk,Option.map_some,aWk,hd,aPtr]
   ·simp only[img,List.getElem?_set_ne hj]
  | dq j|rt j|pk j|wa j|np j=>
   by_cases hj:k=j
   ·subst hj;first|exact absurd rfl hro|(simp only[img,hself,hk,Option.bind_some])
   ·simp only[img,List.getElem?_set_ne hj]
  | _=>rfl
 ·by_cases hj:k=j
  ·subst hj;rw[hself] at hv;cases hv;exact h.sd.dq k w e hk he
  ·rw[List.getElem?_set_ne hj] at hv;exact h.sd.dq j v e hv he
theorem MM.set_nap (h:MM q pl σ L s) {w:Wk} (hk:L[k]?=some w) {d0:Tw} (hd:w.nap=some d0) (d:Tw):MM q pl (σ.set (pl.p (.np k)) (Res.obj 0 (aTw q d []))) (L.set k { w with nap:=some d }) s:=by
 have hkl:=Qh hk;have hself:(L.set k { w with nap:=some d })[k]?=some { w with nap:=some d }:=List.getElem?_set_self hkl;refine h.upd1 rfl (by simp[img,hk,hd]) eo (fun ro hro=>?_) ⟨h.sd.ok,h.sd.ws,h.sd.fr,h.sd.hl,h.sd.rg,h.sd.bk,h.sd.ib,h.sd.f0,h.sd.o0,h.sd.l0,h.sd.ol,h.sd.dt,fun j v e hv he=>?_,h.sd.fs⟩
 ·cases ro with
  | wk j=>
   by_cases hj:k=j
   ·subst hj;simp only[img,hself,hk,Option.map_some,aWk,hd,aPtr]
   ·simp only[img,List.getElem?_set_ne hj]
  | dq j|rt j|pk j|wa j|np j=>
   by_cases hj:k=j
   ·subst hj;first|exact absurd rfl hro|(simp only[img,hself,hk,Option.bind_some])
   ·simp only[img,List.getElem?_set_ne hj]
  | _=>rfl
 ·by_cases hj:k=j
  ·subst hj;rw[hself] at hv;cases hv;exact h.sd.dq k w e hk he
  ·rw[List.getElem?_set_ne hj] at hv;exact h.sd.dq j v e hv he
theorem rt_len2 (q:Pm) (d:Rt) (ws:List Int):(rtStep q d ws).2.length=ws.length:=by
 unfold rtStep
 repeat' split
 all_goals first|rfl|exact Z44 _ _ _|exact Qk _ _ _|(unfold rouse;first|rfl|exact Z44 _ _ _)
theorem pk_len2 (q:Pm) (d:Pk) (ws:List Int):(pkStep q d ws).2.length=ws.length:=by
 unfold pkStep
 repeat' split
 all_goals first|rfl|exact Z44 _ _ _|exact Qk _ _ _|(unfold rouse;first|rfl|exact Z44 _ _ _)
theorem np_len2 (q:Pm) (d:Tw) (ws:List Int):(napStep q d ws).2.length=ws.length:=by
 unfold napStep
 repeat' split
 all_goals first|rfl|exact Z44 _ _ _|exact Qk _ _ _|(unfold rouse;first|rfl|exact Z44 _ _ _)
theorem wa_len2 (q:Pm) (d:Tw) (ws:List Int):(wakeStep q d ws).2.length=ws.length:=by
 unfold wakeStep
 repeat' split
 all_goals first|rfl|exact Z44 _ _ _|exact Qk _ _ _|(unfold rouse;first|rfl|exact Z44 _ _ _)
theorem wa_looks (q:Pm) (d:Tw) (ws:List Int):(wakeStep q d ws).1.looks=d.looks:=by
 unfold wakeStep
 repeat' split
 all_goals first|rfl|exact Z44 _ _ _|exact Qk _ _ _|(unfold rouse;first|rfl|exact Z44 _ _ _)
theorem WM.step_dq (h:WM q L k jw jc pl0 σ0 pl σ x) {d:Dq} (hd:x.1.dq=some d):FnG Tryz.prog 92 [.ref (pl.p (.dq k)) 0 0,.ref (pl.p .sw) 0 0] σ fun a σ'=>a=aBool (dqNext q d x.2.ws).1.ended∧WM q L k jw jc pl0 σ0 pl σ' ({ x.1 with dq:=some (dqNext q d x.2.ws).1 },x.2.setW (dqNext q d x.2.ws).2)∧Ext pl pl σ σ':=by
 have hlive:(img q pl (L.set k x.1) x.2 (.dq k)).isSome=true:=by simp[img,h.hk,hd]
 have hc:=h.mm.at_ (.dq k) _ o5;have n1:=h.mm.ne hlive (b:=.sw) rfl ke;have n2:=h.mm.ne hlive (b:=.w) rfl ke;refine FnG.mono (dq_Step_a h.mm.sd.ok hc h.mm.words h.mm.sd.ws n1 n2 (h.mm.sd.dq k x.1 d h.hk hd)) ?_;rintro a σ' ⟨rfl,rfl⟩;obtain ⟨h1,X1⟩:=h.setW (ws:=(dqNext q d x.2.ws).2) (dq_len2 q d x.2.ws);have hm:=h1.mm.set_dq h.hk hd (dqNext q d x.2.ws).1 (dq_ok2 (h.mm.sd.dq k x.1 d h.hk hd) _);rw[List.set_set] at hm;exact ⟨rfl,⟨hm,h.kl,h.ew,h.ec,h.ex.trans (X1.trans (Ext.set ..))⟩,X1.trans (Ext.set ..)⟩
theorem WM.step_right (h:WM q L k jw jc pl0 σ0 pl σ x) {d:Rt} (hd:x.1.right=some d):FnG Tryz.prog 170 [.ref (pl.p (.rt k)) 0 0,.ref (pl.p .sw) 0 0] σ fun a σ'=>a=aBool (decide ((rtStep q d x.2.ws).1.next=3))∧WM q L k jw jc pl0 σ0 pl σ' ({ x.1 with right:=some (rtStep q d x.2.ws).1 },x.2.setW (rtStep q d x.2.ws).2)∧Ext pl pl σ σ':=by
 have hlive:(img q pl (L.set k x.1) x.2 (.rt k)).isSome=true:=by simp[img,h.hk,hd]
 have hc:=h.mm.at_ (.rt k) _ o5;have n1:=h.mm.ne hlive (b:=.sw) rfl ke;have n2:=h.mm.ne hlive (b:=.w) rfl ke;refine FnG.mono (right_Step_a h.mm.sd.ok h.mm.words h.mm.sd.ws n1 n2 hc) ?_;rintro a σ' ⟨rfl,rfl⟩;obtain ⟨h1,X1⟩:=h.setW (ws:=(rtStep q d x.2.ws).2) (rt_len2 q d x.2.ws);have hm:=h1.mm.set_right h.hk hd (rtStep q d x.2.ws).1;rw[List.set_set] at hm;exact ⟨rfl,⟨hm,h.kl,h.ew,h.ec,h.ex.trans (X1.trans (Ext.set ..))⟩,X1.trans (Ext.set ..)⟩
theorem WM.step_park (h:WM q L k jw jc pl0 σ0 pl σ x) {d:Pk} (hd:x.1.park=some d):FnG Tryz.prog 177 [.ref (pl.p (.pk k)) 0 0,.ref (pl.p .sw) 0 0] σ fun a σ'=>a=aBool (decide ((pkStep q d x.2.ws).1.next=3))∧WM q L k jw jc pl0 σ0 pl σ' ({ x.1 with park:=some (pkStep q d x.2.ws).1 },x.2.setW (pkStep q d x.2.ws).2)∧Ext pl pl σ σ':=by
 have hlive:(img q pl (L.set k x.1) x.2 (.pk k)).isSome=true:=by simp[img,h.hk,hd]
 have hc:=h.mm.at_ (.pk k) _ o5;have n1:=h.mm.ne hlive (b:=.sw) rfl ke;have n2:=h.mm.ne hlive (b:=.w) rfl ke;refine FnG.mono (park_Step_a h.mm.sd.ok h.mm.words h.mm.sd.ws n1 n2 hc) ?_;rintro a σ' ⟨rfl,rfl⟩;obtain ⟨h1,X1⟩:=h.setW (ws:=(pkStep q d x.2.ws).2) (pk_len2 q d x.2.ws);have hm:=h1.mm.set_park h.hk hd (pkStep q d x.2.ws).1;rw[List.set_set] at hm;exact ⟨rfl,⟨hm,h.kl,h.ew,h.ec,h.ex.trans (X1.trans (Ext.set ..))⟩,X1.trans (Ext.set ..)⟩
theorem WM.step_nap (h:WM q L k jw jc pl0 σ0 pl σ x) {d:Tw} (hd:x.1.nap=some d):FnG Tryz.prog 252 [.ref (pl.p (.np k)) 0 0,.ref (pl.p .sw) 0 0] σ fun a σ'=>a=aBool (napStep q d x.2.ws).1.over∧WM q L k jw jc pl0 σ0 pl σ' ({ x.1 with nap:=some (napStep q d x.2.ws).1 },x.2.setW (napStep q d x.2.ws).2)∧Ext pl pl σ σ':=by
 have hlive:(img q pl (L.set k x.1) x.2 (.np k)).isSome=true:=by simp[img,h.hk,hd]
 have hc:=h.mm.at_ (.np k) _ o5;have n1:=h.mm.ne hlive (b:=.sw) rfl ke;have n2:=h.mm.ne hlive (b:=.w) rfl ke;refine FnG.mono (nap_Step_a h.mm.sd.ok h.mm.words h.mm.sd.ws n1 n2 hc) ?_;rintro a σ' ⟨rfl,rfl⟩;obtain ⟨h1,X1⟩:=h.setW (ws:=(napStep q d x.2.ws).2) (np_len2 q d x.2.ws);have hm:=h1.mm.set_nap h.hk hd (napStep q d x.2.ws).1;rw[List.set_set] at hm;exact ⟨rfl,⟨hm,h.kl,h.ew,h.ec,h.ex.trans (X1.trans (Ext.set ..))⟩,X1.trans (Ext.set ..)⟩
theorem WM.step_wake (h:WM q L k jw jc pl0 σ0 pl σ x) {d:Tw} (hd:x.1.wake=some d):FnG Tryz.prog 245 [.ref (pl.p (.wa k)) 0 0,.ref (pl.p .sw) 0 0] σ fun a σ'=>a=aBool (wakeStep q d x.2.ws).1.over∧WM q L k jw jc pl0 σ0 pl σ' ({ x.1 with wake:=some (wakeStep q d x.2.ws).1 },x.2.setW (wakeStep q d x.2.ws).2)∧Ext pl pl σ σ':=by
 have hlive:(img q pl (L.set k x.1) x.2 (.wa k)).isSome=true:=by simp[img,h.hk,hd]
 have hc:=h.mm.at_ (.wa k) _ o5;have n1:=h.mm.ne hlive (b:=.sw) rfl ke;have n2:=h.mm.ne hlive (b:=.w) rfl ke;refine FnG.mono (wake_Step_a h.mm.sd.ok h.mm.words h.mm.sd.ws n1 n2 hc) ?_;rintro a σ' ⟨rfl,rfl⟩;obtain ⟨h1,X1⟩:=h.setW (ws:=(wakeStep q d x.2.ws).2) (wa_len2 q d x.2.ws);have hm:=h1.mm.set_wake h.hk hd (wakeStep q d x.2.ws).1;rw[wa_looks] at hm;rw[List.set_set] at hm;exact ⟨rfl,⟨hm,h.kl,h.ew,h.ec,h.ex.trans (X1.trans (Ext.set ..))⟩,X1.trans (Ext.set ..)⟩
theorem WM.dqc (h:WM q L k jw jc pl0 σ0 pl σ x) {d:Dq} (hd:x.1.dq=some d):σ[pl.p (.dq k)]?=some (.obj 0 (aDq q (pl.p (.dq k)) d)):=h.mm.at_ (.dq k) _ (by simp[img,h.hk,hd])
theorem WM.rtc (h:WM q L k jw jc pl0 σ0 pl σ x) {d:Rt} (hd:x.1.right=some d):σ[pl.p (.rt k)]?=some (.obj 0 (aRt q d)):=h.mm.at_ (.rt k) _ (by simp[img,h.hk,hd])
theorem WM.pkc (h:WM q L k jw jc pl0 σ0 pl σ x) {d:Pk} (hd:x.1.park=some d):σ[pl.p (.pk k)]?=some (.obj 0 (aPk q d)):=h.mm.at_ (.pk k) _ (by simp[img,h.hk,hd])
theorem WM.wac (h:WM q L k jw jc pl0 σ0 pl σ x) {d:Tw} (hd:x.1.wake=some d):σ[pl.p (.wa k)]?=some (.obj 0 (aTw q d [.v (.bool d.looks)])):=h.mm.at_ (.wa k) _ (by simp[img,h.hk,hd])
theorem WM.npc (h:WM q L k jw jc pl0 σ0 pl σ x) {d:Tw} (hd:x.1.nap=some d):σ[pl.p (.np k)]?=some (.obj 0 (aTw q d [])):=h.mm.at_ (.np k) _ (by simp[img,h.hk,hd])
theorem QK {α:Type} {o:Option α} {a:α} {j:Nat} (h:o=some a):aPtr o j=.ref j 0 0:=by rw[h];rfl
end
section
variable {q:Pm} {L:List Wk} {k jw jc:Nat} {pl0 pl:Pl} {σ0 σ:Kx.St} {x:WC}
theorem XP {d:Dq} (hd:x.1.dq=some d):stepD q x=({ x.1 with dq:=some (dqNext q d x.2.ws).1 },x.2.setW (dqNext q d x.2.ws).2):=by simp[stepD,dqStep,hd]
theorem w_seek_a (h:WM q L k jw jc pl0 σ0 pl σ x) (victim:Int):FnG Tryz.prog 51 [.ref jw 0 0,.ref jc 0 0,.v (.int .i64 victim)] σ fun _ σ'=>∃pl',WM q L k jw jc pl0 σ0 pl' σ' (seekF q x victim):=by
 refine Q3 Z1.2 mixed rfl ?_;simp only[Z1,qH];have hfl:PF.av (.fld 0 none) [.agg (aPr q)]=some (.v (.int .i64 q.W)):=rfl;obtain ⟨⟨w1,w2⟩,_⟩:=h.mm.sd.ok;have hw:=h.wk;push_cast (maxSteps:=999999) -implicitDefEqProofs (disch:=omega);refine Q4 h.Params_a ?_;have hr:=v_rem .i64 (w64 (max victim 0 % q.W+x.1.probed)) q.W ka;push_cast (maxSteps:=999999) -implicitDefEqProofs (disch:=omega)[hfl,hw,hr];refine Qf h rfl rfl ko (wst4 _ _ _ _) ⟨rfl,rfl,rfl,rfl,rfl⟩ ?_;intro σ1 h1 X1;push_cast (maxSteps:=999999) -implicitDefEqProofs (disch:=omega);refine Q4 h1.Stats_a ?_;have hc:=h1.c;push_cast (maxSteps:=999999) -implicitDefEqProofs (disch:=omega)[hc];refine X52 h1 rfl rfl ko (cos14 _ _ _ _) rfl ?_;intro σ2 h2 X2;have hw2:=h2.wk;by_cases c:(w64 (max victim 0 % q.W+x.1.probed)).tmod q.W=x.1.own
 ·have e:seekF q x victim=({ x.1 with probed:=w64 (x.1.probed+1) },{ x.2 with probes:=w64 (x.2.probes+1) }):=if_pos c;rw[e];push_cast (maxSteps:=999999) -implicitDefEqProofs (disch:=omega)[hw2,c];exact ⟨_,h2⟩
 ·have e:seekF q x victim=stepD q ({ x.1 with probed:=w64 (x.1.probed+1),dq:=some (dqSteal ((w64 (max victim 0 % q.W+x.1.probed)).tmod q.W)),state:=1 },{ x.2 with probes:=w64 (x.2.probes+1) }):=if_neg c;rw[e];push_cast (maxSteps:=999999) -implicitDefEqProofs (disch:=omega)[hw2,c];refine Q4 h2.Plan_a ?_;push_cast (maxSteps:=999999) -implicitDefEqProofs (disch:=omega);refine Q4 (dq_Steal_a q σ2 _) ?_;push_cast (maxSteps:=999999) -implicitDefEqProofs (disch:=omega);refine Y04 h2 (.inl rfl) ?_;intro pl3 σ3 h3 X3;push_cast (maxSteps:=999999) -implicitDefEqProofs (disch:=omega);refine Qf h3 rfl rfl ko (wst1 _ _ _ _) ⟨rfl,rfl,rfl,rfl,rfl⟩ ?_;intro σ4 h4 X4;have hw4:=h4.wk;have hdq:=QK (o:=some (dqSteal ((w64 (max victim 0 % q.W+x.1.probed)).tmod q.W))) (j:=pl3.p (.dq k)) rfl;push_cast (maxSteps:=999999) -implicitDefEqProofs (disch:=omega)[hw4,hdq];refine Q4 h4.Words_a ?_;push_cast (maxSteps:=999999) -implicitDefEqProofs (disch:=omega)[hw4,hdq];refine Q0 (h4.step_dq rfl) ?_;rintro a σ5 ⟨rfl,h5,X5⟩;push_cast (maxSteps:=999999) -implicitDefEqProofs (disch:=omega);rw[XP rfl];exact ⟨_,h5⟩
theorem w_steal_a (h:WM q L k jw jc pl0 σ0 pl σ x) {d:Dq} (hd:x.1.dq=some d):FnG Tryz.prog 93 [.ref jw 0 0,.ref jc 0 0] σ fun _ σ'=>∃pl',WM q L k jw jc pl0 σ0 pl' σ' (stealF q x):=by
 refine Q3 Q79.2 mixed rfl ?_;simp only[Q79,qH];have hw:=h.wk;have hdq:=QK (j:=pl.p (.dq k)) hd;push_cast[hw,hdq];refine Q4 h.Words_a ?_;push_cast[hw,hdq];refine Q0 (h.step_dq hd) ?_;rintro a σ1 ⟨rfl,h1,X1⟩;unfold stealF;simp only[XP hd,dqEnded,dqGets]
 cases c1:(dqNext q d x.2.ws).1.ended with
 | false=>simp only[if_true];push_cast[aBool];exact ⟨_,h1⟩
 | true=>
  simp only[Bool.true_eq_false,if_false];have hw1:=h1.wk;have hdq1:=QK (o:=some (dqNext q d x.2.ws).1) (j:=pl.p (.dq k)) rfl;push_cast[aBool,hw1,hdq1];refine Q4 (dq_Got_a (h1.dqc rfl)) ?_
  cases c2:(dqNext q d x.2.ws).1.gets.2 with
  | false=>simp only[if_true];push_cast[aInt,aBool];refine Qf h1 rfl rfl ko (wst1 _ _ _ _) ⟨rfl,rfl,rfl,rfl,rfl⟩ ?_;intro σ2 h2 X2;push_cast;exact ⟨_,h2⟩
  | true=>simp only[Bool.true_eq_false,if_false];push_cast[aInt,aBool];refine Q4 h1.Stats_a ?_;have hc:=h1.c;push_cast[hc];refine X52 h1 rfl rfl ko (cos15 _ _ _ _) rfl ?_;intro σ2 h2 X2;push_cast;refine Q7 h2 (XB h2.re _) ?_;intro a pl3 σ3 h3 X3;push_cast;exact ⟨_,h3⟩
theorem w_pop_a (h:WM q L k jw jc pl0 σ0 pl σ x) {d:Dq} (hd:x.1.dq=some d):FnG Tryz.prog 94 [.ref jw 0 0,.ref jc 0 0] σ fun _ σ'=>∃pl',WM q L k jw jc pl0 σ0 pl' σ' (popF q x):=by
 refine Q3 ZS.2 mixed rfl ?_;simp only[ZS,qH];have hw:=h.wk;have hdq:=QK (j:=pl.p (.dq k)) hd;push_cast[hw,hdq];refine Q4 h.Words_a ?_;push_cast[hw,hdq];refine Q0 (h.step_dq hd) ?_;rintro a σ1 ⟨rfl,h1,X1⟩;unfold popF;simp only[XP hd,dqEnded,dqGets,dqTail]
 cases c1:(dqNext q d x.2.ws).1.ended with
 | false=>simp only[if_true];push_cast[aBool];exact ⟨_,h1⟩
 | true=>
  simp only[Bool.true_eq_false,if_false];have hw1:=h1.wk;have hdq1:=QK (o:=some (dqNext q d x.2.ws).1) (j:=pl.p (.dq k)) rfl;push_cast[aBool,hw1,hdq1];refine Q4 (dq_Tail_a (h1.dqc rfl)) ?_;push_cast[aInt];refine Qf h1 rfl rfl ko (wst3 _ _ _ _) ⟨rfl,rfl,rfl,rfl,rfl⟩ ?_;intro σ2 h2 X2;have hw2:=h2.wk;push_cast[hw2,hdq1];refine Q4 (dq_Got_a (h2.dqc rfl)) ?_
  cases c2:(dqNext q d x.2.ws).1.gets.2 with
  | false=>simp only[if_true];push_cast[aInt,aBool];refine Qf h2 rfl rfl ko (wst1 _ _ _ _) ⟨rfl,rfl,rfl,rfl,rfl⟩ ?_;intro σ3 h3 X3;push_cast;exact ⟨_,h3⟩
  | true=>simp only[Bool.true_eq_false,if_false];push_cast[aInt,aBool];refine Q7 h2 (XB h2.re _) ?_;intro a pl3 σ3 h3 X3;push_cast;exact ⟨_,h3⟩
theorem w_spawn1_a (h:WM q L k jw jc pl0 σ0 pl σ x) (id:Int):FnG Tryz.prog 163 [.ref jc 0 0,.ep [.ref jw 0 0],.ep [.v (.int .i64 id)]] σ fun _ σ'=>∃pl',WM q L k jw jc pl0 σ0 pl' σ' (x.1.runs id,x.2):=by refine Q3 Q41.2 mixed rfl ?_;simp only[Q41,qH];push_cast;refine Q7 h (Z41 h.re id) ?_;intro a pl1 σ1 h1 X1;push_cast;exact ⟨_,h1⟩
theorem w_next1_a (h:WM q L k jw jc pl0 σ0 pl σ x) (id:Int):FnG Tryz.prog 290 [.ref jc 0 0,.ep [.ref jw 0 0],.ep [.v (.int .i64 id)]] σ fun _ σ'=>∃pl',WM q L k jw jc pl0 σ0 pl' σ' (x.1.takes x.2 id,x.2):=by refine Q3 Q62.2 mixed rfl ?_;simp only[Q62,qH];push_cast;refine Q7 h (XB h.re id) ?_;intro a pl1 σ1 h1 X1;push_cast;exact ⟨_,h1⟩
theorem ok_looksOn:fnOk Tryz.prog 167=true:=by kernel_rfl
theorem ok_decide:fnOk Tryz.prog 169=true:=by kernel_rfl
theorem ok_stop:fnOk Tryz.prog 172=true:=by kernel_rfl
theorem ok_spawn1:fnOk Tryz.prog 163=true:=by kernel_rfl
theorem ok_next1:fnOk Tryz.prog 290=true:=by kernel_rfl
theorem wpa_then (h:WM q L k jw jc pl0 σ0 pl σ x) (hn:x.1.th≠.none) {K:AV→Kx.St→Prop} (hk:∀a pl' σ',WM q L k jw jc pl0 σ0 pl' σ' (thenF q x)→act (K a σ')):act (EF.awp Tryz.prog .callv [aTh (pl.p (.wk k)) x.1.th,.ref jc 0 0] σ K):=by
 rw[h.ew]
 cases e:x.1.th with
 | none=>exact absurd e hn
 | looksOn=>
  refine Q8 ok_looksOn rfl (X06 h) ?_;rintro a σ' ⟨pl',h'⟩;refine hk a pl' σ' ?_;have e2:thenF q x=looksOnF q x:=by simp[thenF,e]
  rw[e2];exact h'
 | decide=>
  refine Q8 ok_decide rfl (X53 h) ?_;rintro a σ' ⟨pl',h'⟩;refine hk a pl' σ' ?_;have e2:thenF q x=decideF q x:=by simp[thenF,e]
  rw[e2];exact h'
 | stop=>
  refine Q8 ok_stop rfl (Yf h) ?_;rintro a σ' ⟨pl',h'⟩;refine hk a pl' σ' ?_;have e2:thenF q x=stopF x:=by simp[thenF,e]
  rw[e2];exact h'
 | runs id=>
  refine Q8 ok_spawn1 rfl (w_spawn1_a h id) ?_;rintro a σ' ⟨pl',h'⟩;refine hk a pl' σ' ?_;have e2:thenF q x=(x.1.runs id,x.2):=by simp[thenF,e]
  rw[e2];exact h'
 | takes id=>
  refine Q8 ok_next1 rfl (w_next1_a h id) ?_;rintro a σ' ⟨pl',h'⟩;refine hk a pl' σ' ?_;have e2:thenF q x=(x.1.takes x.2 id,x.2):=by simp[thenF,e]
  rw[e2];exact h'
theorem w_push_a (h:WM q L k jw jc pl0 σ0 pl σ x) {d:Dq} (hd:x.1.dq=some d) (hth:x.1.th≠.none):FnG Tryz.prog 95 [.ref jw 0 0,.ref jc 0 0] σ fun _ σ'=>∃pl',WM q L k jw jc pl0 σ0 pl' σ' (pushF q x):=by
 refine Q3 Z2.2 mixed rfl ?_;simp only[Z2,qH];have hw:=h.wk;have hdq:=QK (j:=pl.p (.dq k)) hd;push_cast[hw,hdq];refine Q4 h.Words_a ?_;push_cast[hw,hdq];refine Q0 (h.step_dq hd) ?_;rintro a σ1 ⟨rfl,h1,X1⟩;unfold pushF;simp only[XP hd,dqEnded,dqFull,dqTail]
 cases c1:(dqNext q d x.2.ws).1.ended with
 | false=>simp only[if_true];push_cast[aBool];exact ⟨_,h1⟩
 | true=>
  simp only[Bool.true_eq_false,if_false];have hw1:=h1.wk;have hdq1:=QK (o:=some (dqNext q d x.2.ws).1) (j:=pl.p (.dq k)) rfl;push_cast[aBool,hw1,hdq1];refine Q4 (dq_Tail_a (h1.dqc rfl)) ?_;push_cast[aInt];refine Qf h1 rfl rfl ko (wst3 _ _ _ _) ⟨rfl,rfl,rfl,rfl,rfl⟩ ?_;intro σ2 h2 X2;have hw2:=h2.wk;push_cast[hw2,hdq1];refine Q4 (dq_Full_a (h2.dqc rfl)) ?_
  cases c2:(dqNext q d x.2.ws).1.full with
  | true=>simp only[if_true];push_cast[aBool];refine Q7 h2 (h2.re.Stop_a 5 2) ?_;intro a pl3 σ3 h3 X3;push_cast;exact ⟨_,h3⟩
  | false=>simp only[Bool.false_eq_true,if_false];push_cast[aBool,hw2];refine wpa_then h2 hth ?_;intro a pl3 σ3 h3;push_cast;exact ⟨_,h3⟩
end
section
variable {q:Pm} {L:List Wk} {k jw jc:Nat} {pl0 pl:Pl} {σ0 σ:Kx.St} {x:WC}
theorem Y05 {P:Program} {K:AV→Kx.St→Prop} {e:EF} {vs vs':List AV} {w:Nat} {cs:List AV} {fs:List Bool} (hr:AV.resL (σ++[.obj w cs]) cs=cs) (he:weak (σ++[.frz w cs]) fs vs=vs') (h:act (EF.awp P e vs' (σ++[.frz w cs]) K)):act (EF.awp P e vs (σ++[.obj w cs]) K):=by
 refine wpa_frz [σ.length] fs ?_;have hf:Kx.freeze [σ.length] (σ++[Res.obj w cs])=σ++[Res.frz w cs]:=by simp[Kx.freeze,freeze1,hr]
 rw[hf,he];exact h
theorem w_joined_a (h:WM q L k jw jc pl0 σ0 pl σ x):FnG Tryz.prog 97 [.ref jw 0 0,.ref jc 0 0] σ fun _ σ'=>∃pl',WM q L k jw jc pl0 σ0 pl' σ' (joinedF q x):=by refine Q3 Q54.2 mixed rfl ?_;simp only[Q54,qH];have hw:=h.wk;have ⟨b1,b2⟩:=Zy h.mm.sd.ok h.mm.sd.ws x.1.holds;push_cast[hw];refine Q4 h.Words_a ?_;push_cast[hw];refine Q4 h.Plan_a ?_;push_cast[hw];refine Q5 (Qr h.mm.sd.ok _) ?_;push_cast[aInt,hw];refine Q0 (X88 h.mm.words b1 ka) ?_;rintro a σ1 hs1;obtain ⟨h1,X1⟩:=h.setW (Qk _ _ _);rw[←hs1] at h1 X1;clear hs1;push_cast;refine Q0 h1.frame_a ?_;rintro a σ2 ⟨⟨i,off,rfl,hf⟩,h2,X2⟩;push_cast;refine Q43 h2 hf (f':={ (x.2.setW (stW x.2.ws (q.frame x.1.holds) 1)).at x.1.holds with dirty:=false }) (Y23 h2.mm _) rfl rfl ko rfl ?_;intro σ3 h3 hf3;push_cast;refine Qf h3 rfl rfl ko (wst1 _ _ _ _) ⟨rfl,rfl,rfl,rfl,rfl⟩ ?_;intro σ4 h4 X4;push_cast;exact ⟨_,h4⟩
theorem w_resume_a (h:WM q L k jw jc pl0 σ0 pl σ x):FnG Tryz.prog 100 [.ref jw 0 0,.ref jc 0 0] σ fun _ σ'=>∃pl',WM q L k jw jc pl0 σ0 pl' σ' (resumeF q x):=by refine Q3 Q56.2 mixed rfl ?_;simp only[Q56,qH];have hw:=h.wk;have ⟨b1,b2⟩:=Zy h.mm.sd.ok h.mm.sd.ws x.1.other;push_cast[hw];refine Q4 h.Words_a ?_;push_cast[hw];refine Q4 h.Plan_a ?_;push_cast[hw];refine Q5 (Qr h.mm.sd.ok _) ?_;push_cast[aInt,hw];refine Q0 (X88 h.mm.words b1 ka) ?_;rintro a σ1 hs1;obtain ⟨h1,X1⟩:=h.setW (Qk _ _ _);rw[←hs1] at h1 X1;clear hs1;have hw1:=h1.wk;push_cast[hw1];refine Q0 (h1.at_a x.1.other) ?_;rintro a σ2 ⟨⟨i,off,rfl,hf⟩,h2,X2⟩;push_cast;refine Q43 h2 hf (f':={ (x.2.setW (stW x.2.ws (q.frame x.1.other) 1)).at x.1.other with dirty:=false }) (Y23 h2.mm _) rfl rfl ko rfl ?_;intro σ3 h3 hf3;have hw3:=h3.wk;push_cast[hw3];refine Q7 h3 (Z41 h3.re _) ?_;intro a pl4 σ4 h4 X4;push_cast;exact ⟨_,h4⟩
theorem w_arrive_a (h:WM q L k jw jc pl0 σ0 pl σ x):FnG Tryz.prog 99 [.ref jw 0 0,.ref jc 0 0] σ fun _ σ'=>∃pl',WM q L k jw jc pl0 σ0 pl' σ' (arriveF q x):=by
 refine Q3 Q55.2 mixed rfl ?_;simp only[Q55,qH];have hw:=h.wk;have ⟨b1,b2⟩:=Zy h.mm.sd.ok h.mm.sd.ws x.1.other;push_cast[hw];refine Q4 h.Words_a ?_;push_cast[hw];refine Q4 h.Plan_a ?_;push_cast[hw];refine Q5 (Qr h.mm.sd.ok _) ?_;push_cast[aInt,hw];refine Q0 (Z25 h.mm.words b1 ka) ?_;rintro a σ1 ⟨rfl,hs1⟩;obtain ⟨h1,X1⟩:=h.setW (ws:=(joinLeave x.2.ws (q.frame x.1.other)).2) (Z81 _ _ _);rw[←hs1] at h1 X1;clear hs1
 cases c:(joinLeave x.2.ws (q.frame x.1.other)).1 with
 | true=>
  have e:arriveF q x=({ x.1 with state:=8 },x.2.setW (joinLeave x.2.ws (q.frame x.1.other)).2):=by simp[arriveF,c]
  rw[e];push_cast[aBool];refine Qf h1 rfl rfl ko (wst1 _ _ _ _) ⟨rfl,rfl,rfl,rfl,rfl⟩ ?_;intro σ2 h2 X2;push_cast;exact ⟨_,h2⟩
 | false=>
  have e:arriveF q x=(x.1.goes,x.2.setW (joinLeave x.2.ws (q.frame x.1.other)).2):=by simp[arriveF,c]
  rw[e];push_cast[aBool];refine Q7 h1 (XN h1.re) ?_;intro a pl2 σ2 h2 X2;push_cast;exact ⟨_,h2⟩
theorem w_finish_a (h:WM q L k jw jc pl0 σ0 pl σ x):FnG Tryz.prog 182 [.ref jw 0 0,.ref jc 0 0] σ fun _ σ'=>∃pl',WM q L k jw jc pl0 σ0 pl' σ' (finishF q x):=by
 refine Q3 Q61.2 mixed rfl ?_;simp only[Q61,qH];have hw:=h.wk;have ⟨b1,b2⟩:=Zy h.mm.sd.ok h.mm.sd.ws x.1.other;push_cast[hw];refine Q4 h.Words_a ?_;push_cast[hw];refine Q4 h.Plan_a ?_;push_cast[hw];refine Q5 (Qr h.mm.sd.ok _) ?_;push_cast[aInt,hw];refine Q0 (Z25 h.mm.words b1 ka) ?_;rintro a σ1 ⟨rfl,hs1⟩;obtain ⟨h1,X1⟩:=h.setW (ws:=(joinLeave x.2.ws (q.frame x.1.other)).2) (Z81 _ _ _);rw[←hs1] at h1 X1;clear hs1
 cases c:(joinLeave x.2.ws (q.frame x.1.other)).1 with
 | true=>
  have e:finishF q x=({ x.1 with holds:=x.1.other,state:=18 },x.2.setW (joinLeave x.2.ws (q.frame x.1.other)).2):=by simp[finishF,c]
  rw[e];have hw1:=h1.wk;push_cast[aBool,hw1];refine Qf h1 rfl rfl ko (wst2 _ _ _ _) ⟨rfl,rfl,rfl,rfl,rfl⟩ ?_;intro σ2 h2 X2;push_cast;refine Qf h2 rfl rfl ko (wst1 _ _ _ _) ⟨rfl,rfl,rfl,rfl,rfl⟩ ?_;intro σ3 h3 X3;push_cast;exact ⟨_,h3⟩
 | false=>
  have e:finishF q x=(x.1.goes,x.2.setW (joinLeave x.2.ws (q.frame x.1.other)).2):=by simp[finishF,c]
  rw[e];push_cast[aBool];refine Q7 h1 (XN h1.re) ?_;intro a pl2 σ2 h2 X2;push_cast;exact ⟨_,h2⟩
theorem w_spawn_a (h:WM q L k jw jc pl0 σ0 pl σ x):FnG Tryz.prog 98 [.ref jw 0 0,.ref jc 0 0] σ fun _ σ'=>∃pl',WM q L k jw jc pl0 σ0 pl' σ' (spawnF q x):=by
 refine Q3 Q80.2 mixed rfl ?_;simp only[Q80,qH];have hw:=h.wk;have ⟨b1,b2⟩:=Zy h.mm.sd.ok h.mm.sd.ws x.1.holds;push_cast;refine Q6 ?_;push_cast[hw];refine Q4 h.Words_a ?_;push_cast[hw];refine Q4 h.Plan_a ?_;push_cast[hw];refine Q5 (Qr h.mm.sd.ok _) ?_;push_cast[aInt,hw];refine Q0 (X87 h.mm.words b1 ka) ?_;rintro a σ1 hs1;obtain ⟨h1,X1⟩:=h.setW (Z81 _ _ _);rw[←hs1] at h1 X1;clear hs1;have hw1:=h1.wk;push_cast[hw1];refine Qm ?_;push_cast;refine Q9 rfl rfl (Qe _ _) ke ?_;push_cast;have h2:=h1.app [Res.frz 0 [AV.v (.int .i64 x.1.other)]];have hw2:=Qn (τ:=[Res.obj 0 [AV.v (.int .i64 x.1.other)]]) hw1;have hw3:=h2.wk;push_cast[hw2];refine Y05 (fs:=[false,false,false,true]) (vs':=[.ref jw 0 0,.ref jc 0 0,.v (.int .i64 x.1.holds),aTh jw (.runs x.1.other)]) rfl ?_ ?_
 ·simp[weak,aTh,AV.res,AV.resL,hw3]
 refine Q7 h2 (ZC h2.re x.1.holds (.runs x.1.other)) ?_;intro a pl3 σ3 h3 X3;push_cast;exact ⟨_,h3⟩
end
end Go.Proofs.YtelibaobkcokdaaGreat.Mx
