/- The machine: a loop's ring; crossings; throttling. -/
import Derived.Test.YtelibaobkcokdaaGreatQU2Md
namespace Go.Proofs.YtelibaobkcokdaaGreat.Mx
set_option linter.unusedSectionVars false
set_option linter.unusedVariables false
set_option linter.unusedSimpArgs false
open Go Go.Kx Go.Proofs Go.Proofs.YtelibaobkcokdaaGreat
set_option maxRecDepth 8000
def aRr (q:Pm) (r:Rg):List AV:=[.v (.int .i64 q.W),.v (.int .i64 q.F),.v (.int .i64 q.T),.v (.int .i64 q.D),.v (.int .i64 r.id),.v (.int .i64 r.serial)]
section
variable (q:Pm) (r:Rg)
theorem rr4:(aRr q r)[4]?=some (.v (.int .i64 r.id)):=rfl
theorem rr5:(aRr q r)[5]?=some (.v (.int .i64 r.serial)):=rfl
theorem rrc4:cellsA (some 4) (aRr q r)=some (.agg (aPl q)):=rfl
theorem rrc6:cellsA (some 6) (aRr q r)=some (.agg (aRr q r)):=rfl
theorem rr_cells:(AV.agg (aRr q r)).cells=aRr q r:=rfl
theorem rr_ex:(AV.agg (aRr q r)).exact=true:=rfl
theorem rr_pure:AV.pureL (aRr q r)=true:=by simp[aRr,AV.pureL,AV.pure]
theorem rr_p:(AV.agg (aRr q r)).pure=true:=by rw[AV.pure,rr_pure]
end
attribute [push_cast] rr4 rr5 rrc4 rrc6 rr_cells rr_ex
theorem ring_New_a (q:Pm) (σ:Kx.St) (id serial:Int):FnG Tryz.prog 234 [.agg (aPl q),aInt id,aInt serial] σ fun a σ'=>a=.agg (aRr q ⟨id,serial⟩)∧σ'=σ:=by
 refine FnG.drop0 (fun a h=>by subst h;rfl) ?_
 refine Q2 K_ring_New mixed rfl ?_
 simp only[J53,aInt]
 have hb:fillA [AV.v (.int .i64 0),AV.v (.int .i64 0),AV.v (.int .i64 0),AV.v (.int .i64 0),AV.v (.int .i64 0),AV.v (.int .i64 0)] [(0,4),(4,1),(5,1)] [.agg (aPl q),.v (.int .i64 id),.v (.int .i64 serial)]=some (aRr q ⟨id,serial⟩):=by simp[fillA,AV.cells,Value.cells,setAtA,aPl,aRr]
 have hs:setAtA [AV.v (.int .i64 0),AV.v (.int .i64 0),AV.v (.int .i64 0),AV.v (.int .i64 0),AV.v (.int .i64 0),AV.v (.int .i64 0)] 0 (aRr q ⟨id,serial⟩)=aRr q ⟨id,serial⟩:=rfl
 push_cast (maxSteps:=999999) -implicitDefEqProofs (disch:=omega)
 refine Q3 ?_
 push_cast (maxSteps:=999999) -implicitDefEqProofs (disch:=omega)[Qf]
 refine Qb ?_
 push_cast (maxSteps:=999999) -implicitDefEqProofs (disch:=omega)[cells4,hb]
 refine Q8 (cs:=[AV.v (.int .i64 0),.v (.int .i64 0),.v (.int .i64 0),.v (.int .i64 0),.v (.int .i64 0),.v (.int .i64 0)]) rfl rfl (Qc _ _) (by simp) ?_
 rw[hs,Qq]
 push_cast (maxSteps:=999999) -implicitDefEqProofs (disch:=omega)[Qc]
 exact ⟨_,rfl⟩
theorem Q74 (q:Pm) (r:Rg) (it st:Int):FnP Tryz.prog 281 [.agg (aRr q r),.v (.int .i64 it),.v (.int .i64 st)] fun a=>a=aInt (tokF r.serial it st):=by
 refine Qg J22 mixed rfl (by simp[AV.pureL,rr_p,rr_pure,AV.pure]) ?_
 simp only[X73]
 push_cast (maxSteps:=999999) -implicitDefEqProofs (disch:=omega)
 refine Q3 ?_
 push_cast (maxSteps:=999999) -implicitDefEqProofs (disch:=omega)
 refine Q1 (token_Of_a _ _ _) ?_
 rintro a rfl
 push_cast (maxSteps:=999999) -implicitDefEqProofs (disch:=omega)[aInt]
 first|exact ⟨[],rfl,rfl⟩|exact ⟨[],rfl⟩
theorem ring_May_a (q:Pm) (r:Rg) (t it counter:Int):FnP Tryz.prog 237 [.agg (aRr q r),.v (.int .i64 t),.v (.int .i64 it),.v (.int .i64 counter)] fun a=>a=.tup [aInt (r.may t it counter).1,aBool (r.may t it counter).2]:=by
 refine Qg JH mixed rfl (by simp[AV.pureL,rr_p,rr_pure,AV.pure]) ?_
 simp only[XQ]
 push_cast (maxSteps:=999999) -implicitDefEqProofs (disch:=omega)
 refine Q3 ?_
 push_cast (maxSteps:=999999) -implicitDefEqProofs (disch:=omega)
 refine Q1 (YF t) ?_
 rintro a rfl
 push_cast (maxSteps:=999999) -implicitDefEqProofs (disch:=omega)[aInt]
 refine Q1 (token_Next_a t counter) ?_
 rintro a ⟨k,rfl⟩
 by_cases c:tokIs t=true∧tokStage t < counter
 ·have e1:(tokIs t&&decide (tokStage t < counter))=true:=by simp[c]
  rw[e1]
  push_cast (maxSteps:=999999) -implicitDefEqProofs (disch:=omega)[aInt,aBool]
  refine Q1 (Q74 q r it (tokStage t)) ?_
  rintro a rfl
  by_cases c2:t=tokF r.serial it (tokStage t)
  ·have e2:r.may t it counter=(tokStage t,true):=if_pos ⟨c.1,c.2,c2⟩
   have e3:decide (t=tokF r.serial it (tokStage t))=true:=decide_eq_true c2
   rw[e2]
   push_cast (maxSteps:=999999) -implicitDefEqProofs (disch:=omega)[aInt,aBool,e3]
   exact ⟨[],rfl,rfl⟩
  ·have e2:r.may t it counter=(0,false):=if_neg fun h=>c2 h.2.2
   rw[e2]
   push_cast (maxSteps:=999999) -implicitDefEqProofs (disch:=omega)[aInt,aBool,c2]
   exact ⟨[],rfl,rfl⟩
 ·have e1:(tokIs t&&decide (tokStage t < counter))=false:=by
   cases h1:tokIs t with
   | false=>rfl
   | true=>simp only[h1,true_and] at c;simp[c]
  have e2:r.may t it counter=(0,false):=if_neg fun h=>c ⟨h.1,h.2.1⟩
  rw[e1,e2]
  push_cast (maxSteps:=999999) -implicitDefEqProofs (disch:=omega)[aInt,aBool]
  exact ⟨[],rfl,rfl⟩
theorem goes_a (ok:Bool) (n:Int):FnP Tryz.prog 239 [.v (.bool ok),.v (.int .i64 n)] fun a=>a=aInt (goesN ok n):=by
 refine Qg K_cross_goes mixed rfl (by simp[AV.pureL,AV.pure]) ?_
 simp only[Y55]
 cases ok<;>(push_cast (maxSteps:=999999) -implicitDefEqProofs (disch:=omega);first|exact ⟨[],rfl,rfl⟩|exact ⟨[],rfl⟩)
section
variable {q:Pm} {σ:Kx.St} {js jw:Nat} {ws:List Int} (hq:q.Ok) (h:Wd σ js jw ws) (hl:(ws.length:Int)=q.size)
include hq h hl
omit h in
theorem Z96 (id it:Int) {k:Int} (h0:0≤k) (h3:k≤3):0≤q.word id it k∧q.word id it k < ws.length:=by
 have ⟨a1,a2⟩:=hq.word_in id it k h0 h3
 have ⟨b1,b2⟩:=hq.frame_in id
 have ⟨c1,c2⟩:=hq.WW
 omega
omit h in
theorem ZC (id:Int):0≤q.frame id∧q.frame id+1 < ws.length:=by
 have ⟨b1,b2⟩:=hq.frame_in id
 have ⟨c1,c2⟩:=hq.WW
 have ⟨d1,d2⟩:=hq.room_in
 omega
omit h in
theorem nap_lt (id:Int):0≤q.nap id∧q.nap id < ws.length:=by
 have ⟨b1,b2⟩:=ZC hq hl id
 unfold Pm.nap;omega
theorem JR (r:Rg) (it:Int):FnG Tryz.prog 174 [.agg (aRr q r),.ref js 0 0,.v (.int .i64 it)] σ fun a σ'=>a=aInt (ldW ws (q.word r.id it 0))∧σ'=σ:=by
 refine Q2 Y80 mixed rfl ?_
 simp only[Xg]
 have ⟨b1,b2⟩:=Z96 hq hl r.id it (k:=0) (by decide) (by decide)
 push_cast (maxSteps:=999999) -implicitDefEqProofs (disch:=omega)
 refine Q3 ?_
 push_cast (maxSteps:=999999) -implicitDefEqProofs (disch:=omega)
 refine Q1 (Xl hq r.id it) ?_
 rintro a rfl
 push_cast (maxSteps:=999999) -implicitDefEqProofs (disch:=omega)
 refine Q0 (X92 h b1 b2) ?_
 rintro a σ' ⟨rfl,rfl⟩
 push_cast (maxSteps:=999999) -implicitDefEqProofs (disch:=omega)[aInt]
 exact trivial
theorem ring_Waits_a (r:Rg) (it:Int):FnG Tryz.prog 238 [.agg (aRr q r),.ref js 0 0,.v (.int .i64 it)] σ fun a σ'=>a=aInt (ldW ws (q.word r.id it 1))∧σ'=σ:=by
 refine Q2 Y15 mixed rfl ?_
 simp only[Z61]
 have ⟨b1,b2⟩:=Z96 hq hl r.id it (k:=1) (by decide) (by decide)
 push_cast (maxSteps:=999999) -implicitDefEqProofs (disch:=omega)
 refine Q3 ?_
 push_cast (maxSteps:=999999) -implicitDefEqProofs (disch:=omega)
 refine Q1 (ZQ hq r.id it) ?_
 rintro a rfl
 push_cast (maxSteps:=999999) -implicitDefEqProofs (disch:=omega)
 refine Q0 (X92 h b1 b2) ?_
 rintro a σ' ⟨rfl,rfl⟩
 push_cast (maxSteps:=999999) -implicitDefEqProofs (disch:=omega)[aInt]
 exact trivial
theorem ring_Frame_a (r:Rg) (it:Int):FnG Tryz.prog 241 [.agg (aRr q r),.ref js 0 0,.v (.int .i64 it)] σ fun a σ'=>a=aInt (ldW ws (q.word r.id it 2))∧σ'=σ:=by
 refine Q2 Y16 mixed rfl ?_
 simp only[Z62]
 have ⟨b1,b2⟩:=Z96 hq hl r.id it (k:=2) (by decide) (by decide)
 push_cast (maxSteps:=999999) -implicitDefEqProofs (disch:=omega)
 refine Q3 ?_
 push_cast (maxSteps:=999999) -implicitDefEqProofs (disch:=omega)
 refine Q1 (Yv hq r.id it) ?_
 rintro a rfl
 push_cast (maxSteps:=999999) -implicitDefEqProofs (disch:=omega)
 refine Q0 (X92 h b1 b2) ?_
 rintro a σ' ⟨rfl,rfl⟩
 push_cast (maxSteps:=999999) -implicitDefEqProofs (disch:=omega)[aInt]
 exact trivial
theorem JS (r:Rg) (it v:Int):FnG Tryz.prog 165 [.agg (aRr q r),.ref js 0 0,.v (.int .i64 it),.v (.int .i64 v)] σ fun _ σ'=>σ'=σ.set jw (.obj 0 ((stW ws (q.word r.id it 0) v).map aInt)):=by
 refine Q2 J21 mixed rfl ?_
 simp only[X72]
 have ⟨b1,b2⟩:=Z96 hq hl r.id it (k:=0) (by decide) (by decide)
 push_cast (maxSteps:=999999) -implicitDefEqProofs (disch:=omega)
 refine Q3 ?_
 push_cast (maxSteps:=999999) -implicitDefEqProofs (disch:=omega)
 refine Q1 (Xl hq r.id it) ?_
 rintro a rfl
 push_cast (maxSteps:=999999) -implicitDefEqProofs (disch:=omega)
 refine Q0 (ZB h b1 b2 _) ?_
 rintro a σ' ⟨rfl,rfl⟩
 push_cast (maxSteps:=999999) -implicitDefEqProofs (disch:=omega)
 exact trivial
theorem ring_Link_a (r:Rg) (it v:Int):FnG Tryz.prog 256 [.agg (aRr q r),.ref js 0 0,.v (.int .i64 it),.v (.int .i64 v)] σ fun _ σ'=>σ'=σ.set jw (.obj 0 ((stW ws (q.word r.id it 2) v).map aInt)):=by
 refine Q2 Y84 mixed rfl ?_
 simp only[Xk]
 have ⟨b1,b2⟩:=Z96 hq hl r.id it (k:=2) (by decide) (by decide)
 push_cast (maxSteps:=999999) -implicitDefEqProofs (disch:=omega)
 refine Q3 ?_
 push_cast (maxSteps:=999999) -implicitDefEqProofs (disch:=omega)
 refine Q1 (Yv hq r.id it) ?_
 rintro a rfl
 push_cast (maxSteps:=999999) -implicitDefEqProofs (disch:=omega)
 refine Q0 (ZB h b1 b2 _) ?_
 rintro a σ' ⟨rfl,rfl⟩
 push_cast (maxSteps:=999999) -implicitDefEqProofs (disch:=omega)
 exact trivial
theorem ring_Wait_a (r:Rg) (it v:Int):FnG Tryz.prog 244 [.agg (aRr q r),.ref js 0 0,.v (.int .i64 it),.v (.int .i64 v)] σ fun _ σ'=>σ'=σ.set jw (.obj 0 ((stW ws (q.word r.id it 1) (tokF r.serial it v)).map aInt)):=by
 refine Q2 Y82 mixed rfl ?_
 simp only[Xi]
 have ⟨b1,b2⟩:=Z96 hq hl r.id it (k:=1) (by decide) (by decide)
 push_cast (maxSteps:=999999) -implicitDefEqProofs (disch:=omega)
 refine Q3 ?_
 push_cast (maxSteps:=999999) -implicitDefEqProofs (disch:=omega)
 refine Q1 (ZQ hq r.id it) ?_
 rintro a rfl
 push_cast (maxSteps:=999999) -implicitDefEqProofs (disch:=omega)
 refine Q1 (Q74 q r it v) ?_
 rintro a rfl
 push_cast (maxSteps:=999999) -implicitDefEqProofs (disch:=omega)
 refine Q0 (ZB h b1 b2 _) ?_
 rintro a σ' ⟨rfl,rfl⟩
 push_cast (maxSteps:=999999) -implicitDefEqProofs (disch:=omega)
 exact trivial
theorem ring_End_a (r:Rg) (it:Int):FnG Tryz.prog 285 [.agg (aRr q r),.ref js 0 0,.v (.int .i64 it)] σ fun _ σ'=>σ'=σ.set jw (.obj 0 ((stW ws (q.word r.id it 3) (tokF r.serial it 0)).map aInt)):=by
 refine Q2 JJ mixed rfl ?_
 simp only[XR]
 have ⟨b1,b2⟩:=Z96 hq hl r.id it (k:=3) (by decide) (by decide)
 push_cast (maxSteps:=999999) -implicitDefEqProofs (disch:=omega)
 refine Q3 ?_
 push_cast (maxSteps:=999999) -implicitDefEqProofs (disch:=omega)
 refine Q1 (Yw hq r.id it) ?_
 rintro a rfl
 push_cast (maxSteps:=999999) -implicitDefEqProofs (disch:=omega)
 refine Q1 (Q74 q r it 0) ?_
 rintro a rfl
 push_cast (maxSteps:=999999) -implicitDefEqProofs (disch:=omega)
 refine Q0 (ZB h b1 b2 _) ?_
 rintro a σ' ⟨rfl,rfl⟩
 push_cast (maxSteps:=999999) -implicitDefEqProofs (disch:=omega)
 exact trivial
theorem JT (r:Rg) (it st:Int):FnG Tryz.prog 240 [.agg (aRr q r),.ref js 0 0,.v (.int .i64 it),.v (.int .i64 st)] σ fun a σ'=>a=aBool (swW ws (q.word r.id it 1) (tokF r.serial it st)).1∧σ'=σ.set jw (.obj 0 ((swW ws (q.word r.id it 1) (tokF r.serial it st)).2.map aInt)):=by
 refine Q2 Y81 mixed rfl ?_
 simp only[Xh]
 have ⟨b1,b2⟩:=Z96 hq hl r.id it (k:=1) (by decide) (by decide)
 push_cast (maxSteps:=999999) -implicitDefEqProofs (disch:=omega)
 refine Q3 ?_
 push_cast (maxSteps:=999999) -implicitDefEqProofs (disch:=omega)
 refine Q1 (ZQ hq r.id it) ?_
 rintro a rfl
 push_cast (maxSteps:=999999) -implicitDefEqProofs (disch:=omega)
 refine Q1 (Q74 q r it st) ?_
 rintro a rfl
 push_cast (maxSteps:=999999) -implicitDefEqProofs (disch:=omega)
 refine Q0 (Y64 h b1 b2 _) ?_
 rintro a σ' ⟨rfl,rfl⟩
 push_cast (maxSteps:=999999) -implicitDefEqProofs (disch:=omega)[aBool]
 exact trivial
theorem Y67 (r:Rg) (it:Int):FnG Tryz.prog 250 [.agg (aRr q r),.ref js 0 0,.v (.int .i64 it)] σ fun a σ'=>a=aBool (endedR q r ws it)∧σ'=σ:=by
 refine Q2 Y17 mixed rfl ?_
 simp only[Z63]
 have ⟨b1,b2⟩:=Z96 hq hl r.id it (k:=3) (by decide) (by decide)
 push_cast (maxSteps:=999999) -implicitDefEqProofs (disch:=omega)
 refine Q3 ?_
 push_cast (maxSteps:=999999) -implicitDefEqProofs (disch:=omega)
 refine Q1 (Yw hq r.id it) ?_
 rintro a rfl
 push_cast (maxSteps:=999999) -implicitDefEqProofs (disch:=omega)
 refine Q0 (XY h b1 b2) ?_
 rintro a σ' ⟨rfl,rfl⟩
 push_cast (maxSteps:=999999) -implicitDefEqProofs (disch:=omega)[aInt,aBool]
 refine Q1 (Q74 q r it 0) ?_
 rintro a rfl
 push_cast (maxSteps:=999999) -implicitDefEqProofs (disch:=omega)[aInt]
 first|exact rfl|exact ⟨rfl,trivial⟩|exact trivial
theorem ring_Sleep_a (r:Rg) (it:Int):FnG Tryz.prog 292 [.agg (aRr q r),.ref js 0 0,.v (.int .i64 it)] σ fun _ σ'=>σ'=σ.set jw (.obj 0 ((stW ws (q.nap r.id) (tokF r.serial it 0)).map aInt)):=by
 refine Q2 Y18 mixed rfl ?_
 simp only[Z64]
 have ⟨b1,b2⟩:=nap_lt hq hl r.id
 push_cast (maxSteps:=999999) -implicitDefEqProofs (disch:=omega)
 refine Q3 ?_
 push_cast (maxSteps:=999999) -implicitDefEqProofs (disch:=omega)
 refine Q1 (XT hq r.id) ?_
 rintro a rfl
 push_cast (maxSteps:=999999) -implicitDefEqProofs (disch:=omega)
 refine Q1 (Q74 q r it 0) ?_
 rintro a rfl
 push_cast (maxSteps:=999999) -implicitDefEqProofs (disch:=omega)
 refine Q0 (ZB h b1 b2 _) ?_
 rintro a σ' ⟨rfl,rfl⟩
 push_cast (maxSteps:=999999) -implicitDefEqProofs (disch:=omega)
 exact trivial
theorem J96 (r:Rg) (it:Int):FnG Tryz.prog 287 [.agg (aRr q r),.ref js 0 0,.v (.int .i64 it)] σ fun a σ'=>a=aBool (decide (ldW ws (q.nap r.id)=tokF r.serial it 0))∧σ'=σ:=by
 refine Q2 Ys mixed rfl ?_
 simp only[Z21]
 have ⟨b1,b2⟩:=nap_lt hq hl r.id
 push_cast (maxSteps:=999999) -implicitDefEqProofs (disch:=omega)
 refine Q3 ?_
 push_cast (maxSteps:=999999) -implicitDefEqProofs (disch:=omega)
 refine Q1 (XT hq r.id) ?_
 rintro a rfl
 push_cast (maxSteps:=999999) -implicitDefEqProofs (disch:=omega)
 refine Q0 (XY h b1 b2) ?_
 rintro a σ' ⟨rfl,rfl⟩
 push_cast (maxSteps:=999999) -implicitDefEqProofs (disch:=omega)[aInt,aBool]
 refine Q1 (Q74 q r it 0) ?_
 rintro a rfl
 push_cast (maxSteps:=999999) -implicitDefEqProofs (disch:=omega)[aInt]
 first|exact rfl|exact ⟨rfl,trivial⟩|exact trivial
theorem ring_Rouse_a (r:Rg) (it:Int):FnG Tryz.prog 309 [.agg (aRr q r),.ref js 0 0,.v (.int .i64 it)] σ fun a σ'=>a=aBool (swW ws (q.nap r.id) (tokF r.serial it 0)).1∧σ'=σ.set jw (.obj 0 ((swW ws (q.nap r.id) (tokF r.serial it 0)).2.map aInt)):=by
 refine Q2 Y20 mixed rfl ?_
 simp only[Z66]
 have ⟨b1,b2⟩:=nap_lt hq hl r.id
 push_cast (maxSteps:=999999) -implicitDefEqProofs (disch:=omega)
 refine Q3 ?_
 push_cast (maxSteps:=999999) -implicitDefEqProofs (disch:=omega)
 refine Q1 (XT hq r.id) ?_
 rintro a rfl
 push_cast (maxSteps:=999999) -implicitDefEqProofs (disch:=omega)
 refine Q1 (Q74 q r it 0) ?_
 rintro a rfl
 push_cast (maxSteps:=999999) -implicitDefEqProofs (disch:=omega)
 refine Q0 (Y64 h b1 b2 _) ?_
 rintro a σ' ⟨rfl,rfl⟩
 push_cast (maxSteps:=999999) -implicitDefEqProofs (disch:=omega)[aBool]
 exact trivial
end
def aRt (q:Pm) (w:Rt):List AV:=[.v (.int .i64 q.W),.v (.int .i64 q.F),.v (.int .i64 q.T),.v (.int .i64 q.D),.v (.int .i64 w.r.id),.v (.int .i64 w.r.serial),.v (.int .i64 w.it),.v (.int .i64 w.counter),.v (.int .i64 w.stage),.v (.int .i64 w.next),.v (.int .i64 w.frame),.v (.bool w.got)]
section
variable (q:Pm) (w:Rt)
theorem aRti6:(aRt q w)[6]?=some (.v (.int .i64 w.it)):=rfl
theorem aRts6 (x:Int):(aRt q w).set 6 (.v (.int .i64 x))=aRt q { w with it:=x }:=rfl
theorem aRti7:(aRt q w)[7]?=some (.v (.int .i64 w.counter)):=rfl
theorem aRts7 (x:Int):(aRt q w).set 7 (.v (.int .i64 x))=aRt q { w with counter:=x }:=rfl
theorem aRti8:(aRt q w)[8]?=some (.v (.int .i64 w.stage)):=rfl
theorem aRts8 (x:Int):(aRt q w).set 8 (.v (.int .i64 x))=aRt q { w with stage:=x }:=rfl
theorem aRti9:(aRt q w)[9]?=some (.v (.int .i64 w.next)):=rfl
theorem aRts9 (x:Int):(aRt q w).set 9 (.v (.int .i64 x))=aRt q { w with next:=x }:=rfl
theorem aRti10:(aRt q w)[10]?=some (.v (.int .i64 w.frame)):=rfl
theorem aRts10 (x:Int):(aRt q w).set 10 (.v (.int .i64 x))=aRt q { w with frame:=x }:=rfl
theorem aRti11:(aRt q w)[11]?=some (.v (.bool w.got)):=rfl
theorem aRts11 (x:Bool):(aRt q w).set 11 (.v (.bool x))=aRt q { w with got:=x }:=rfl
theorem aRtc6:cellsA (some 6) (aRt q w)=some (.agg (aRr q w.r)):=by rw[Z86 _ _ (by simp[aRt])];rfl
theorem aRtl:12≤(aRt q w).length:=by simp[aRt]
theorem aRt_lt {k:Nat} (h:k < 12):k < (aRt q w).length:=Nat.lt_of_lt_of_le h (aRtl q w)
end
attribute [push_cast] aRti6 aRts6 aRti7 aRts7 aRti8 aRts8 aRti9 aRts9 aRti10 aRts10 aRti11 aRts11 aRtc6
def aPk (q:Pm) (w:Pk):List AV:=[.v (.int .i64 q.W),.v (.int .i64 q.F),.v (.int .i64 q.T),.v (.int .i64 q.D),.v (.int .i64 w.r.id),.v (.int .i64 w.r.serial),.v (.int .i64 w.it),.v (.int .i64 w.stage),.v (.int .i64 w.next),.v (.bool w.back)]
section
variable (q:Pm) (w:Pk)
theorem aPki6:(aPk q w)[6]?=some (.v (.int .i64 w.it)):=rfl
theorem aPks6 (x:Int):(aPk q w).set 6 (.v (.int .i64 x))=aPk q { w with it:=x }:=rfl
theorem aPki7:(aPk q w)[7]?=some (.v (.int .i64 w.stage)):=rfl
theorem aPks7 (x:Int):(aPk q w).set 7 (.v (.int .i64 x))=aPk q { w with stage:=x }:=rfl
theorem aPki8:(aPk q w)[8]?=some (.v (.int .i64 w.next)):=rfl
theorem aPks8 (x:Int):(aPk q w).set 8 (.v (.int .i64 x))=aPk q { w with next:=x }:=rfl
theorem aPki9:(aPk q w)[9]?=some (.v (.bool w.back)):=rfl
theorem aPks9 (x:Bool):(aPk q w).set 9 (.v (.bool x))=aPk q { w with back:=x }:=rfl
theorem aPkc6:cellsA (some 6) (aPk q w)=some (.agg (aRr q w.r)):=by rw[Z86 _ _ (by simp[aPk])];rfl
theorem aPkl:10≤(aPk q w).length:=by simp[aPk]
theorem aPk_lt {k:Nat} (h:k < 10):k < (aPk q w).length:=Nat.lt_of_lt_of_le h (aPkl q w)
end
attribute [push_cast] aPki6 aPks6 aPki7 aPks7 aPki8 aPks8 aPki9 aPks9 aPkc6
def aTw (q:Pm) (w:Tw) (t:List AV):List AV:=[.v (.int .i64 q.W),.v (.int .i64 q.F),.v (.int .i64 q.T),.v (.int .i64 q.D),.v (.int .i64 w.r.id),.v (.int .i64 w.r.serial),.v (.int .i64 w.it),.v (.int .i64 w.at_),.v (.bool w.over),.v (.bool w.won)]++t
section
variable (q:Pm) (w:Tw) (t:List AV)
theorem aTwi6:(aTw q w t)[6]?=some (.v (.int .i64 w.it)):=rfl
theorem aTws6 (x:Int):(aTw q w t).set 6 (.v (.int .i64 x))=aTw q { w with it:=x } t:=rfl
theorem aTwi7:(aTw q w t)[7]?=some (.v (.int .i64 w.at_)):=rfl
theorem aTws7 (x:Int):(aTw q w t).set 7 (.v (.int .i64 x))=aTw q { w with at_:=x } t:=rfl
theorem aTwi8:(aTw q w t)[8]?=some (.v (.bool w.over)):=rfl
theorem aTws8 (x:Bool):(aTw q w t).set 8 (.v (.bool x))=aTw q { w with over:=x } t:=rfl
theorem aTwi9:(aTw q w t)[9]?=some (.v (.bool w.won)):=rfl
theorem aTws9 (x:Bool):(aTw q w t).set 9 (.v (.bool x))=aTw q { w with won:=x } t:=rfl
theorem aTwc6:cellsA (some 6) (aTw q w t)=some (.agg (aRr q w.r)):=by rw[Z86 _ _ (by simp[aTw])];rfl
theorem aTwl:10≤(aTw q w t).length:=by simp[aTw]
theorem aTw_lt {k:Nat} (h:k < 10):k < (aTw q w t).length:=Nat.lt_of_lt_of_le h (aTwl q w t)
end
attribute [push_cast] aTwi6 aTws6 aTwi7 aTws7 aTwi8 aTws8 aTwi9 aTws9 aTwc6
theorem aTw10 (q:Pm) (w:Tw) (b:Bool):(aTw q w [.v (.bool b)])[10]?=some (.v (.bool b)):=rfl
attribute [push_cast] aTw10
def z6:List Value:=[.int .i64 0,.int .i64 0,.int .i64 0,.int .i64 0,.int .i64 0,.int .i64 0]
theorem cross_Look_a (q:Pm) (σ:Kx.St) (r:Rg) (it counter:Int):FnG Tryz.prog 236 [.agg (aRr q r),.v (.int .i64 it),.v (.int .i64 counter)] σ fun a σ'=>a=.ref σ.length 0 0∧σ'=σ++[.obj 0 (aRt q (rtLook r it counter))]:=by
 refine Q2 K_cross_Look mixed rfl ?_
 simp only[Y54]
 have hb:fillA [AV.v (.int .i64 0),AV.v (.int .i64 0),AV.v (.int .i64 0),AV.v (.int .i64 0),AV.v (.int .i64 0),AV.v (.int .i64 0),AV.v (.int .i64 0),AV.v (.int .i64 0),AV.v (.int .i64 0),AV.v (.int .i64 0),AV.v (.int .i64 0),AV.v (.bool false)] [(0,6),(6,1),(7,1)] [.agg (aRr q r),.v (.int .i64 (IntKind.i64.wrap (it+1))),.v (.int .i64 counter)]=some (aRt q (rtLook r it counter)):=by simp[fillA,AV.cells,Value.cells,setAtA,aRr,aRt,rtLook]
 have hac:(AV.agg (aRt q (rtLook r it counter))).cells=aRt q (rtLook r it counter):=rfl
 push_cast (maxSteps:=999999) -implicitDefEqProofs (disch:=omega)
 refine Q3 ?_
 push_cast (maxSteps:=999999) -implicitDefEqProofs (disch:=omega)[hb]
 refine Qn ?_
 push_cast (maxSteps:=999999) -implicitDefEqProofs (disch:=omega)[hac]
 exact trivial
theorem cross_Stop_a (q:Pm) (σ:Kx.St) (r:Rg) (it stage:Int):FnG Tryz.prog 242 [.agg (aRr q r),.v (.int .i64 it),.v (.int .i64 stage)] σ fun a σ'=>a=.ref σ.length 0 0∧σ'=σ++[.obj 0 (aPk q (pkStop r it stage))]:=by
 refine Q2 K_cross_Stop mixed rfl ?_
 simp only[Y56]
 have hb:fillA [AV.v (.int .i64 0),AV.v (.int .i64 0),AV.v (.int .i64 0),AV.v (.int .i64 0),AV.v (.int .i64 0),AV.v (.int .i64 0),AV.v (.int .i64 0),AV.v (.int .i64 0),AV.v (.int .i64 0),AV.v (.bool false)] [(0,6),(6,1),(7,1)] [.agg (aRr q r),.v (.int .i64 it),.v (.int .i64 stage)]=some (aPk q (pkStop r it stage)):=by simp[fillA,AV.cells,Value.cells,setAtA,aRr,aPk,pkStop]
 have hac:(AV.agg (aPk q (pkStop r it stage))).cells=aPk q (pkStop r it stage):=rfl
 push_cast (maxSteps:=999999) -implicitDefEqProofs (disch:=omega)
 refine Q3 ?_
 push_cast (maxSteps:=999999) -implicitDefEqProofs (disch:=omega)[hb]
 refine Qn ?_
 push_cast (maxSteps:=999999) -implicitDefEqProofs (disch:=omega)[hac]
 exact trivial
theorem Y89 (q:Pm) (σ:Kx.St) (r:Rg) (it:Int):FnG Tryz.prog 251 [.agg (aRr q r),.v (.int .i64 it)] σ fun a σ'=>a=.ref σ.length 0 0∧σ'=σ++[.obj 0 (aTw q (napNew r it) [])]:=by
 refine Q2 Y83 mixed rfl ?_
 simp only[Xj]
 have hb:fillA [AV.v (.int .i64 0),AV.v (.int .i64 0),AV.v (.int .i64 0),AV.v (.int .i64 0),AV.v (.int .i64 0),AV.v (.int .i64 0),AV.v (.int .i64 0),AV.v (.int .i64 0),AV.v (.bool false),AV.v (.bool false)] [(0,6),(6,1)] [.agg (aRr q r),.v (.int .i64 it)]=some (aTw q (napNew r it) []):=by simp[fillA,AV.cells,Value.cells,setAtA,aRr,aTw,napNew]
 have hb2:fillA [AV.v (.int .i64 0),AV.v (.int .i64 0),AV.v (.int .i64 0),AV.v (.int .i64 0),AV.v (.int .i64 0),AV.v (.int .i64 0),AV.v (.int .i64 0),AV.v (.int .i64 0),AV.v (.bool false),AV.v (.bool false)] [(0,10)] [.agg (aTw q (napNew r it) [])]=some (aTw q (napNew r it) []):=by simp[fillA,AV.cells,Value.cells,setAtA,aTw,napNew]
 have hac:(AV.agg (aTw q (napNew r it) [])).cells=aTw q (napNew r it) []:=rfl
 push_cast (maxSteps:=999999) -implicitDefEqProofs (disch:=omega)
 refine Q3 ?_
 push_cast (maxSteps:=999999) -implicitDefEqProofs (disch:=omega)[hb,hb2]
 refine Qn ?_
 push_cast (maxSteps:=999999) -implicitDefEqProofs (disch:=omega)[hac]
 exact trivial
theorem Y90 (q:Pm) (σ:Kx.St) (r:Rg) (it:Int) (lk:Bool):FnG Tryz.prog 173 [.agg (aRr q r),.v (.int .i64 it),.v (.bool lk)] σ fun a σ'=>a=.ref σ.length 0 0∧σ'=σ++[.obj 0 (aTw q (wakeNew r it lk) [.v (.bool lk)])]:=by
 refine Q2 Y79 mixed rfl ?_
 simp only[Xf]
 have hb:fillA [AV.v (.int .i64 0),AV.v (.int .i64 0),AV.v (.int .i64 0),AV.v (.int .i64 0),AV.v (.int .i64 0),AV.v (.int .i64 0),AV.v (.int .i64 0),AV.v (.int .i64 0),AV.v (.bool false),AV.v (.bool false)] [(0,6),(6,1)] [.agg (aRr q r),.v (.int .i64 it)]=some (aTw q (wakeNew r it lk) []):=by simp[fillA,AV.cells,Value.cells,setAtA,aRr,aTw,wakeNew]
 have hb2:fillA [AV.v (.int .i64 0),AV.v (.int .i64 0),AV.v (.int .i64 0),AV.v (.int .i64 0),AV.v (.int .i64 0),AV.v (.int .i64 0),AV.v (.int .i64 0),AV.v (.int .i64 0),AV.v (.bool false),AV.v (.bool false),AV.v (.bool false)] [(0,10),(10,1)] [.agg (aTw q (wakeNew r it lk) []),.v (.bool lk)]=some (aTw q (wakeNew r it lk) [.v (.bool lk)]):=by simp[fillA,AV.cells,Value.cells,setAtA,aTw,wakeNew]
 have hac:(AV.agg (aTw q (wakeNew r it lk) [.v (.bool lk)])).cells=aTw q (wakeNew r it lk) [.v (.bool lk)]:=rfl
 push_cast (maxSteps:=999999) -implicitDefEqProofs (disch:=omega)
 refine Q3 ?_
 push_cast (maxSteps:=999999) -implicitDefEqProofs (disch:=omega)[hb,hb2]
 refine Qn ?_
 push_cast (maxSteps:=999999) -implicitDefEqProofs (disch:=omega)[hac]
 exact trivial
section
variable {q:Pm} {σ:Kx.St} {jd js jw:Nat}
theorem right_Got_a {w:Rt} (hd:σ[jd]?=some (.obj 0 (aRt q w))):FnG Tryz.prog 171 [.ref jd 0 0] σ fun a σ'=>a=.tup [aInt w.frame,aBool w.got]∧σ'=σ:=by
 refine Q2 Y12 mixed rfl ?_
 simp only[Z58]
 push_cast (maxSteps:=999999) -implicitDefEqProofs (disch:=omega)[hd,aInt,aBool]
 exact trivial
theorem park_Back_a {w:Pk} (hd:σ[jd]?=some (.obj 0 (aPk q w))):FnG Tryz.prog 178 [.ref jd 0 0] σ fun a σ'=>a=aBool w.back∧σ'=σ:=by
 refine Q2 Y14 mixed rfl ?_
 simp only[Z60]
 push_cast (maxSteps:=999999) -implicitDefEqProofs (disch:=omega)[hd,aBool]
 first|exact ⟨rfl,trivial⟩|exact trivial
theorem nap_Back_a {w:Tw} (hd:σ[jd]?=some (.obj 0 (aTw q w []))):FnG Tryz.prog 253 [.ref jd 0 0] σ fun a σ'=>a=aBool w.won∧σ'=σ:=by
 refine Q2 X87 mixed rfl ?_
 simp only[ZP]
 push_cast (maxSteps:=999999) -implicitDefEqProofs (disch:=omega)[hd,aBool]
 first|exact ⟨rfl,trivial⟩|exact trivial
theorem wake_Got_a {w:Tw} (hd:σ[jd]?=some (.obj 0 (aTw q w [.v (.bool w.looks)]))):FnG Tryz.prog 246 [.ref jd 0 0] σ fun a σ'=>a=aBool w.won∧σ'=σ:=by
 refine Q2 X85 mixed rfl ?_
 simp only[ZN]
 push_cast (maxSteps:=999999) -implicitDefEqProofs (disch:=omega)[hd,aBool]
 first|exact ⟨rfl,trivial⟩|exact trivial
theorem YH {w:Tw} {t:List AV} (hd:σ[jd]?=some (.obj 0 (aTw q w t))) (on:Bool):FnG Tryz.prog 286 [.ref jd 0 0,.v (.bool on)] σ fun _ σ'=>σ'=σ.set jd (.obj 0 (aTw q (w.go on) t)):=by
 refine Q2 X34 mixed rfl ?_
 simp only[Q96]
 have hlt:=Qe hd
 have hl:=aTwl q w t
 push_cast (maxSteps:=999999) -implicitDefEqProofs (disch:=omega)[hd]
 refine Q6 rfl rfl hd (by omega) ?_
 push_cast (maxSteps:=999999) -implicitDefEqProofs (disch:=omega)
 refine Q6 rfl rfl (Qa hd) (aTw_lt _ _ _ (by decide)) ?_
 push_cast (maxSteps:=999999) -implicitDefEqProofs (disch:=omega)[List.set_set]
 first|exact rfl|exact trivial
end
section
variable {q:Pm} {σ:Kx.St} {jd js jw:Nat} {ws:List Int} (hq:q.Ok) (h:Wd σ js jw ws) (hl:(ws.length:Int)=q.size) (n1:jd≠js) (n2:jd≠jw)
include hq h hl n1 n2
theorem J57 {w:Tw} {t:List AV} (hd:σ[jd]?=some (.obj 0 (aTw q w t))):FnG Tryz.prog 288 [.ref jd 0 0,.ref js 0 0] σ fun _ σ'=>σ'=(σ.set jw (.obj 0 ((rouse q w ws).2.map aInt))).set jd (.obj 0 (aTw q (rouse q w ws).1 t)):=by
 refine Q2 XS mixed rfl ?_
 simp only[Q70]
 have hlt:=Qe hd
 have hll:=aTwl q w t
 push_cast (maxSteps:=999999) -implicitDefEqProofs (disch:=omega)[hd]
 refine Q0 (ring_Rouse_a hq h hl w.r w.it) ?_
 rintro a σ' ⟨rfl,rfl⟩
 push_cast (maxSteps:=999999) -implicitDefEqProofs (disch:=omega)[aBool]
 refine Q6 rfl rfl (Q4 n2.symm hd) (by omega) ?_
 push_cast (maxSteps:=999999) -implicitDefEqProofs (disch:=omega)
 refine Q6 rfl rfl (Qa (Q4 n2.symm hd)) (aTw_lt _ _ _ (by decide)) ?_
 push_cast (maxSteps:=999999) -implicitDefEqProofs (disch:=omega)[List.set_set]
 first|exact rfl|exact trivial
theorem nap_Step_a {w:Tw} (hd:σ[jd]?=some (.obj 0 (aTw q w []))):FnG Tryz.prog 252 [.ref jd 0 0,.ref js 0 0] σ fun a σ'=>a=aBool (napStep q w ws).1.over∧σ'=(σ.set jw (.obj 0 ((napStep q w ws).2.map aInt))).set jd (.obj 0 (aTw q (napStep q w ws).1 [])):=by
 refine Q2 X86 mixed rfl ?_
 simp only[ZO]
 have hlt:=Qe hd
 by_cases c0:w.over=true
 ·have e:napStep q w ws=(w,ws):=by simp[napStep,c0]
  rw[e];simp only;rw[h.self,Q06 hd,c0]
  push_cast (maxSteps:=999999) -implicitDefEqProofs (disch:=omega)[hd,c0,aBool]
  exact trivial
 have c0':w.over=false:=by simpa using c0
 by_cases c1:w.at_=0
 ·have e:napStep q w ws=(w.go true,stW ws (q.nap w.r.id) (tokF w.r.serial w.it 0)):=by simp[napStep,c0',c1]
  rw[e]
  push_cast (maxSteps:=999999) -implicitDefEqProofs (disch:=omega)[hd,c0',c1,aBool]
  refine Q0 (ring_Sleep_a hq h hl w.r w.it) ?_
  rintro a σ' rfl
  push_cast (maxSteps:=999999) -implicitDefEqProofs (disch:=omega)[hd]
  refine Q0 (YH (Q4 n2.symm hd) true) ?_
  rintro a σ' rfl
  push_cast (maxSteps:=999999) -implicitDefEqProofs (disch:=omega)[Tw.go]
  first|exact rfl|exact trivial
 by_cases c2:w.at_=1
 ·have e:napStep q w ws=(w.go (endedR q w.r ws w.it),ws):=by simp[napStep,c0',c2]
  rw[e];simp only;rw[h.self]
  push_cast (maxSteps:=999999) -implicitDefEqProofs (disch:=omega)[hd,c0',c1,c2,aBool]
  refine Q0 (Y67 hq h hl w.r w.it) ?_
  rintro a σ' ⟨rfl,rfl⟩
  push_cast (maxSteps:=999999) -implicitDefEqProofs (disch:=omega)[hd,aBool]
  refine Q0 (YH hd _) ?_
  rintro a σ' rfl
  push_cast (maxSteps:=999999) -implicitDefEqProofs (disch:=omega)[Tw.go]
  first|exact rfl|exact trivial
 have e:napStep q w ws=rouse q w ws:=by simp[napStep,c0',c1,c2]
 rw[e]
 push_cast (maxSteps:=999999) -implicitDefEqProofs (disch:=omega)[hd,c0',c1,c2,aBool]
 refine Q0 (J57 hq h hl n1 n2 hd) ?_
 rintro a σ' rfl
 push_cast (maxSteps:=999999) -implicitDefEqProofs (disch:=omega)[rouse]
 first|exact rfl|exact trivial
theorem wake_Step_a {w:Tw} (hd:σ[jd]?=some (.obj 0 (aTw q w [.v (.bool w.looks)]))):FnG Tryz.prog 245 [.ref jd 0 0,.ref js 0 0] σ fun a σ'=>a=aBool (wakeStep q w ws).1.over∧σ'=(σ.set jw (.obj 0 ((wakeStep q w ws).2.map aInt))).set jd (.obj 0 (aTw q (wakeStep q w ws).1 [.v (.bool w.looks)])):=by
 refine Q2 X32 mixed rfl ?_
 simp only[Q94]
 have hlt:=Qe hd
 by_cases c0:w.over=true
 ·have e:wakeStep q w ws=(w,ws):=by simp[wakeStep,c0]
  rw[e];simp only;rw[h.self,Q06 hd,c0]
  push_cast (maxSteps:=999999) -implicitDefEqProofs (disch:=omega)[hd,c0,aBool]
  exact trivial
 have c0':w.over=false:=by simpa using c0
 by_cases c1:w.at_=0
 ·have e:wakeStep q w ws=(w.go w.looks,stW ws (q.word w.r.id w.it 3) (tokF w.r.serial w.it 0)):=by simp[wakeStep,c0',c1]
  rw[e]
  push_cast (maxSteps:=999999) -implicitDefEqProofs (disch:=omega)[hd,c0',c1,aBool]
  refine Q0 (ring_End_a hq h hl w.r w.it) ?_
  rintro a σ' rfl
  push_cast (maxSteps:=999999) -implicitDefEqProofs (disch:=omega)[hd]
  refine Q0 (YH (Q4 n2.symm hd) w.looks) ?_
  rintro a σ' rfl
  push_cast (maxSteps:=999999) -implicitDefEqProofs (disch:=omega)[Tw.go]
  first|exact rfl|exact trivial
 by_cases c2:w.at_=1
 ·have e:wakeStep q w ws=(w.go (decide (ldW ws (q.nap w.r.id)=tokF w.r.serial w.it 0)),ws):=by simp[wakeStep,c0',c2]
  rw[e];simp only;rw[h.self]
  push_cast (maxSteps:=999999) -implicitDefEqProofs (disch:=omega)[hd,c0',c1,c2,aBool]
  refine Q0 (J96 hq h hl w.r w.it) ?_
  rintro a σ' ⟨rfl,rfl⟩
  push_cast (maxSteps:=999999) -implicitDefEqProofs (disch:=omega)[hd,aBool]
  refine Q0 (YH hd _) ?_
  rintro a σ' rfl
  push_cast (maxSteps:=999999) -implicitDefEqProofs (disch:=omega)[Tw.go]
  first|exact rfl|exact trivial
 have e:wakeStep q w ws=rouse q w ws:=by simp[wakeStep,c0',c1,c2]
 rw[e]
 push_cast (maxSteps:=999999) -implicitDefEqProofs (disch:=omega)[hd,c0',c1,c2,aBool]
 refine Q0 (J57 hq h hl n1 n2 hd) ?_
 rintro a σ' rfl
 push_cast (maxSteps:=999999) -implicitDefEqProofs (disch:=omega)[rouse]
 first|exact rfl|exact trivial
theorem right_Step_a {w:Rt} (hd:σ[jd]?=some (.obj 0 (aRt q w))):FnG Tryz.prog 170 [.ref jd 0 0,.ref js 0 0] σ fun a σ'=>a=aBool (decide ((rtStep q w ws).1.next=3))∧σ'=(σ.set jw (.obj 0 ((rtStep q w ws).2.map aInt))).set jd (.obj 0 (aRt q (rtStep q w ws).1)):=by
 refine Q2 Yo mixed rfl ?_
 simp only[Z18]
 have hlt:=Qe hd
 have hlt2:∀(w:Rt) {k:Nat},k < 12→k < (aRt q w).length:=fun w=>aRt_lt q w
 by_cases c0:w.next=0
 ·have e:rtStep q w ws=({ w with stage:=(w.r.may (ldW ws (q.word w.r.id w.it 1)) w.it w.counter).1,next:=goesN (w.r.may (ldW ws (q.word w.r.id w.it 1)) w.it w.counter).2 1 },ws):=by simp[rtStep,c0]
  rw[e];simp only;rw[h.self]
  push_cast (maxSteps:=999999) -implicitDefEqProofs (disch:=omega)[hd,c0]
  refine Q0 (ring_Waits_a hq h hl w.r w.it) ?_
  rintro a σ' ⟨rfl,rfl⟩
  push_cast (maxSteps:=999999) -implicitDefEqProofs (disch:=omega)[hd,aInt]
  refine Q1 (ring_May_a q w.r _ w.it w.counter) ?_
  rintro a rfl
  push_cast (maxSteps:=999999) -implicitDefEqProofs (disch:=omega)[hd,aInt,aBool]
  refine Q1 (goes_a _ 1) ?_
  rintro a rfl
  push_cast (maxSteps:=999999) -implicitDefEqProofs (disch:=omega)[hd,aInt,aBool]
  refine Q6 rfl rfl hd (hlt2 _ (by decide)) ?_
  push_cast (maxSteps:=999999) -implicitDefEqProofs (disch:=omega)
  refine Q6 rfl rfl (Qa hd) (hlt2 _ (by decide)) ?_
  push_cast (maxSteps:=999999) -implicitDefEqProofs (disch:=omega)[List.set_set,aBool]
  first|exact rfl|exact trivial
 by_cases c1:w.next=1
 ·have e:rtStep q w ws=({ w with next:=goesN (swW ws (q.word w.r.id w.it 1) (tokF w.r.serial w.it w.stage)).1 2 },(swW ws (q.word w.r.id w.it 1) (tokF w.r.serial w.it w.stage)).2):=by simp[rtStep,c1]
  rw[e]
  push_cast (maxSteps:=999999) -implicitDefEqProofs (disch:=omega)[hd,c0,c1]
  refine Q0 (JT hq h hl w.r w.it w.stage) ?_
  rintro a σ' ⟨rfl,rfl⟩
  push_cast (maxSteps:=999999) -implicitDefEqProofs (disch:=omega)[hd,aBool]
  refine Q1 (goes_a _ 2) ?_
  rintro a rfl
  push_cast (maxSteps:=999999) -implicitDefEqProofs (disch:=omega)[hd,aInt,aBool]
  refine Q6 rfl rfl (Q4 n2.symm hd) (hlt2 _ (by decide)) ?_
  push_cast (maxSteps:=999999) -implicitDefEqProofs (disch:=omega)[aBool]
  first|exact rfl|exact trivial
 by_cases c2:w.next=2
 ·have e:rtStep q w ws=({ w with frame:=ldW ws (q.word w.r.id w.it 2),got:=true,next:=3 },ws):=by simp[rtStep,c2]
  rw[e];simp only;rw[h.self]
  push_cast (maxSteps:=999999) -implicitDefEqProofs (disch:=omega)[hd,c0,c1,c2]
  refine Q0 (ring_Frame_a hq h hl w.r w.it) ?_
  rintro a σ' ⟨rfl,rfl⟩
  push_cast (maxSteps:=999999) -implicitDefEqProofs (disch:=omega)[hd,aInt]
  refine Q6 rfl rfl hd (hlt2 _ (by decide)) ?_
  push_cast (maxSteps:=999999) -implicitDefEqProofs (disch:=omega)
  refine Q6 rfl rfl (Qa hd) (hlt2 _ (by decide)) ?_
  push_cast (maxSteps:=999999) -implicitDefEqProofs (disch:=omega)
  refine Q6 rfl rfl (Qa (Qa hd)) (hlt2 _ (by decide)) ?_
  push_cast (maxSteps:=999999) -implicitDefEqProofs (disch:=omega)[List.set_set,aBool]
  first|exact rfl|exact trivial
 have e:rtStep q w ws=(w,ws):=by simp[rtStep,c0,c1,c2]
 rw[e];simp only;rw[h.self,Q06 hd]
 push_cast (maxSteps:=999999) -implicitDefEqProofs (disch:=omega)[hd,c0,c1,c2,aBool]
 first|exact rfl|exact trivial
theorem park_Step_a {w:Pk} (hd:σ[jd]?=some (.obj 0 (aPk q w))):FnG Tryz.prog 177 [.ref jd 0 0,.ref js 0 0] σ fun a σ'=>a=aBool (decide ((pkStep q w ws).1.next=3))∧σ'=(σ.set jw (.obj 0 ((pkStep q w ws).2.map aInt))).set jd (.obj 0 (aPk q (pkStep q w ws).1)):=by
 refine Q2 Y13 mixed rfl ?_
 simp only[Z59]
 have hlt:=Qe hd
 have hlt2:∀(w:Pk) {k:Nat},k < 10→k < (aPk q w).length:=fun w=>aPk_lt q w
 by_cases c0:w.next=0
 ·have e:pkStep q w ws=({ w with next:=1 },stW ws (q.word w.r.id w.it 1) (tokF w.r.serial w.it w.stage)):=by simp[pkStep,c0]
  rw[e]
  push_cast (maxSteps:=999999) -implicitDefEqProofs (disch:=omega)[hd,c0]
  refine Q0 (ring_Wait_a hq h hl w.r w.it w.stage) ?_
  rintro a σ' rfl
  push_cast (maxSteps:=999999) -implicitDefEqProofs (disch:=omega)[hd]
  refine Q6 rfl rfl (Q4 n2.symm hd) (hlt2 _ (by decide)) ?_
  push_cast (maxSteps:=999999) -implicitDefEqProofs (disch:=omega)[aBool]
  first|exact rfl|exact trivial
 by_cases c1:w.next=1
 ·have e:pkStep q w ws=({ w with next:=goesN (decide (w.stage < ldW ws (q.word w.r.id (w64 (w.it - 1)) 0))) 2 },ws):=by simp[pkStep,c1]
  rw[e];simp only;rw[h.self]
  push_cast (maxSteps:=999999) -implicitDefEqProofs (disch:=omega)[hd,c0,c1]
  refine Q0 (JR hq h hl w.r _) ?_
  rintro a σ' ⟨rfl,rfl⟩
  push_cast (maxSteps:=999999) -implicitDefEqProofs (disch:=omega)[hd,aInt]
  refine Q1 (goes_a _ 2) ?_
  rintro a rfl
  push_cast (maxSteps:=999999) -implicitDefEqProofs (disch:=omega)[hd,aInt,aBool]
  refine Q6 rfl rfl hd (hlt2 _ (by decide)) ?_
  push_cast (maxSteps:=999999) -implicitDefEqProofs (disch:=omega)[aBool]
  first|exact rfl|exact trivial
 by_cases c2:w.next=2
 ·have e:pkStep q w ws=({ w with back:=(swW ws (q.word w.r.id w.it 1) (tokF w.r.serial w.it w.stage)).1,next:=3 },(swW ws (q.word w.r.id w.it 1) (tokF w.r.serial w.it w.stage)).2):=by simp[pkStep,c2]
  rw[e]
  push_cast (maxSteps:=999999) -implicitDefEqProofs (disch:=omega)[hd,c0,c1,c2]
  refine Q0 (JT hq h hl w.r w.it w.stage) ?_
  rintro a σ' ⟨rfl,rfl⟩
  push_cast (maxSteps:=999999) -implicitDefEqProofs (disch:=omega)[hd,aBool]
  refine Q6 rfl rfl (Q4 n2.symm hd) (hlt2 _ (by decide)) ?_
  push_cast (maxSteps:=999999) -implicitDefEqProofs (disch:=omega)
  refine Q6 rfl rfl (Qa (Q4 n2.symm hd)) (hlt2 _ (by decide)) ?_
  push_cast (maxSteps:=999999) -implicitDefEqProofs (disch:=omega)[List.set_set,aBool]
  first|exact rfl|exact trivial
 have e:pkStep q w ws=(w,ws):=by simp[pkStep,c0,c1,c2]
 rw[e];simp only;rw[h.self,Q06 hd]
 push_cast (maxSteps:=999999) -implicitDefEqProofs (disch:=omega)[hd,c0,c1,c2,aBool]
 first|exact rfl|exact trivial
end
end Go.Proofs.YtelibaobkcokdaaGreat.Mx
