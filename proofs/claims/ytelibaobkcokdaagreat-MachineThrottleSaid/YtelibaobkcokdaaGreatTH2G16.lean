/- The machine: a loop's ring; crossings; throttling. -/
import Derived.Test.YtelibaobkcokdaaGreatTH2G15
import Derived.Test.YtelibaobkcokdaaGreatProg
import Derived.KernelRfl
import Derived.RangeFuncFrom
import Derived.RangeFuncBound
import Derived.RangeFuncCalls
import Derived.RangeFuncLeaves
import Derived.Shelf.Abstract
import Derived.WalkKit
import Derived.OwnWalkIn
import Derived.TacticsInMore
import Derived.LoopNIn
import Derived.LoopIn
namespace Go.Proofs.YtelibaobkcokdaaGreat.Mx
set_option linter.unusedSectionVars false
set_option linter.unusedVariables false
set_option linter.unusedSimpArgs false
open Go Go.Kx Go.Proofs Go.Proofs.YtelibaobkcokdaaGreat
set_option maxRecDepth 8000
def aRr (q:Pm) (r:Rg):List AV:=[.v (.int .i64 q.W),.v (.int .i64 q.F),.v (.int .i64 q.T),.v (.int .i64 q.D),.v (.int .i64 r.id),.v (.int .i64 r.serial)]
section
variable (q:Pm) (r:Rg)
theorem rr4:(aRr q r)[4]?=some (.v (.int .i64 r.id)):=(rfl)
theorem rr5:(aRr q r)[5]?=some (.v (.int .i64 r.serial)):=(rfl)
theorem rrc4:cellsA (some 4) (aRr q r)=some (.agg (aPl q)):=(rfl)
theorem rrc6:cellsA (some 6) (aRr q r)=some (.agg (aRr q r)):=(rfl)
theorem rr_cells:(AV.agg (aRr q r)).cells=aRr q r:=(rfl)
theorem rr_ex:(AV.agg (aRr q r)).exact=true:=(rfl)
theorem rr_pure:AV.pureL (aRr q r)=true:=by simp[aRr,AV.pureL,AV.pure]
theorem rr_p:(AV.agg (aRr q r)).pure=true:=by rw[AV.pure,rr_pure]
end
attribute [push_cast] rr4 rr5 rrc4 rrc6 rr_cells rr_ex
theorem ring_New_a (q:Pm) (σ:Kx.St) (id serial:Int):FnG Tryz.prog 234 [.agg (aPl q),aInt id,aInt serial] σ fun a σ'=>a=.agg (aRr q ⟨id,serial⟩)∧σ'=σ:=by
 refine FnG.drop0 (fun a h=>by subst h;rfl) ?_;refine Q3 Y43.2 mixed rfl ?_;simp only[Y43,aInt,qH];have hb:fillA [AV.v (.int .i64 0),AV.v (.int .i64 0),AV.v (.int .i64 0),AV.v (.int .i64 0),AV.v (.int .i64 0),AV.v (.int .i64 0)] [(0,4),(4,1),(5,1)] [.agg (aPl q),.v (.int .i64 id),.v (.int .i64 serial)]=some (aRr q ⟨id,serial⟩):=by simp[fillA,AV.cells,Value.cells,setAtA,aPl,aRr]
 have hs:setAtA [AV.v (.int .i64 0),AV.v (.int .i64 0),AV.v (.int .i64 0),AV.v (.int .i64 0),AV.v (.int .i64 0),AV.v (.int .i64 0)] 0 (aRr q ⟨id,serial⟩)=aRr q ⟨id,serial⟩:=rfl;push_cast;refine Q6 ?_;push_cast[Qi];refine Qm ?_;push_cast[cells4,hb];refine Qd (cs:=[AV.v (.int .i64 0),.v (.int .i64 0),.v (.int .i64 0),.v (.int .i64 0),.v (.int .i64 0),.v (.int .i64 0)]) rfl rfl (Qe _ _) ke ?_;rw[hs,Qu];push_cast[Qe];exact ⟨_,rfl⟩
theorem Q77 (q:Pm) (r:Rg) (it st:Int):FnP Tryz.prog 281 [.agg (aRr q r),.v (.int .i64 it),.v (.int .i64 st)] fun a=>a=aInt (tokF r.serial it st):=by refine Qj XW.2 mixed rfl (by simp[AV.pureL,rr_p,rr_pure,AV.pure]) ?_;simp only[XW,qH];push_cast;refine Q6 ?_;push_cast;refine Q5 (token_Of_a _ _ _) ?_;push_cast[aInt];exact oo
theorem ring_May_a (q:Pm) (r:Rg) (t it counter:Int):FnP Tryz.prog 237 [.agg (aRr q r),.v (.int .i64 t),.v (.int .i64 it),.v (.int .i64 counter)] fun a=>a=.tup [aInt (r.may t it counter).1,aBool (r.may t it counter).2]:=by
 refine Qj Xp.2 mixed rfl (by simp[AV.pureL,rr_p,rr_pure,AV.pure]) ?_;simp only[Xp,qH];push_cast (disch:=omega);refine Q6 ?_;push_cast (disch:=omega);refine Q5 (X26 t) ?_;push_cast (disch:=omega)[aInt];refine Qv (token_Next_a t counter) ?_;rintro a ⟨k,rfl⟩;by_cases c:tokIs t=true∧tokStage t < counter
 ·have e1:(tokIs t&&decide (tokStage t < counter))=true:=by simp[c]
  rw[e1];push_cast (disch:=omega)[aInt,aBool];refine Q5 (Q77 q r it (tokStage t)) ?_;by_cases c2:t=tokF r.serial it (tokStage t)
  ·have e2:r.may t it counter=(tokStage t,true):=if_pos ⟨c.1,c.2,c2⟩;have e3:decide (t=tokF r.serial it (tokStage t))=true:=decide_eq_true c2;rw[e2];push_cast (disch:=omega)[aInt,aBool,e3];exact ⟨[],rfl,rfl⟩
  ·have e2:r.may t it counter=(0,false):=if_neg fun h=>c2 h.2.2;rw[e2];push_cast (disch:=omega)[aInt,aBool,c2];exact ⟨[],rfl,rfl⟩
 ·have e1:(tokIs t&&decide (tokStage t < counter))=false:=by
   cases h1:tokIs t with
   | false=>rfl
   | true=>simp only[h1,true_and] at c;simp[c]
  have e2:r.may t it counter=(0,false):=if_neg fun h=>c ⟨h.1,h.2.1⟩;rw[e1,e2];push_cast (disch:=omega)[aInt,aBool];exact ⟨[],rfl,rfl⟩
theorem goes_a (ok:Bool) (n:Int):FnP Tryz.prog 239 [.v (.bool ok),.v (.int .i64 n)] fun a=>a=aInt (goesN ok n):=by refine Qj X77.2 mixed rfl (by simp[AV.pureL,AV.pure]) ?_;simp only[X77,qH];cases ok<;>(push_cast;first|exact ⟨[],rfl,rfl⟩|exact ⟨[],rfl⟩)
section
variable {q:Pm} {σ:Kx.St} {js jw:Nat} {ws:List Int} (hq:q.Ok) (h:Wd σ js jw ws) (hl:(ws.length:Int)=q.size)
include hq h hl
omit h in
theorem Z84 (id it:Int) {k:Int} (h0:0≤k) (h3:k≤3):0≤q.word id it k∧q.word id it k < ws.length:=by have ⟨a1,a2⟩:=hq.word_in id it k h0 h3;have ⟨b1,b2⟩:=hq.frame_in id;have ⟨c1,c2⟩:=hq.WW;omega
omit h in
theorem Zy (id:Int):0≤q.frame id∧q.frame id+1 < ws.length:=by have ⟨b1,b2⟩:=hq.frame_in id;have ⟨c1,c2⟩:=hq.WW;have ⟨d1,d2⟩:=hq.room_in;omega
omit h in
theorem nap_lt (id:Int):0≤q.nap id∧q.nap id < ws.length:=by have ⟨b1,b2⟩:=Zy hq hl id;unfold Pm.nap;omega
theorem YQ (r:Rg) (it:Int):FnG Tryz.prog 174 [.agg (aRr q r),.ref js 0 0,.v (.int .i64 it)] σ fun a σ'=>a=aInt (ldW ws (q.word r.id it 0))∧σ'=σ:=by refine Q3 Z92.2 mixed rfl ?_;simp only[Z92,qH];have ⟨b1,b2⟩:=Z84 hq hl r.id it (k:=0) ko ko;push_cast;refine Q6 ?_;push_cast;refine Q5 (Z97 hq r.id it) ?_;push_cast;refine Q4 (X05 h b1 b2) ?_;push_cast[aInt];exact trivial
theorem ring_Waits_a (r:Rg) (it:Int):FnG Tryz.prog 238 [.agg (aRr q r),.ref js 0 0,.v (.int .i64 it)] σ fun a σ'=>a=aInt (ldW ws (q.word r.id it 1))∧σ'=σ:=by refine Q3 Z56.2 mixed rfl ?_;simp only[Z56,qH];have ⟨b1,b2⟩:=Z84 hq hl r.id it (k:=1) ko ko;push_cast;refine Q6 ?_;push_cast;refine Q5 (ZM hq r.id it) ?_;push_cast;refine Q4 (X05 h b1 b2) ?_;push_cast[aInt];exact trivial
theorem ring_Frame_a (r:Rg) (it:Int):FnG Tryz.prog 241 [.agg (aRr q r),.ref js 0 0,.v (.int .i64 it)] σ fun a σ'=>a=aInt (ldW ws (q.word r.id it 2))∧σ'=σ:=by refine Q3 Z57.2 mixed rfl ?_;simp only[Z57,qH];have ⟨b1,b2⟩:=Z84 hq hl r.id it (k:=2) ko ko;push_cast;refine Q6 ?_;push_cast;refine Q5 (X21 hq r.id it) ?_;push_cast;refine Q4 (X05 h b1 b2) ?_;push_cast[aInt];exact trivial
theorem YR (r:Rg) (it v:Int):FnG Tryz.prog 165 [.agg (aRr q r),.ref js 0 0,.v (.int .i64 it),.v (.int .i64 v)] σ fun _ σ'=>σ'=σ.set jw (.obj 0 ((stW ws (q.word r.id it 0) v).map aInt)):=by refine Q3 XV.2 mixed rfl ?_;simp only[XV,qH];have ⟨b1,b2⟩:=Z84 hq hl r.id it (k:=0) ko ko;push_cast;refine Q6 ?_;push_cast;refine Q5 (Z97 hq r.id it) ?_;push_cast;refine Q4 (Zx h b1 b2 _) ?_;push_cast;exact trivial
theorem ring_Link_a (r:Rg) (it v:Int):FnG Tryz.prog 256 [.agg (aRr q r),.ref js 0 0,.v (.int .i64 it),.v (.int .i64 v)] σ fun _ σ'=>σ'=σ.set jw (.obj 0 ((stW ws (q.word r.id it 2) v).map aInt)):=by refine Q3 Z96.2 mixed rfl ?_;simp only[Z96,qH];have ⟨b1,b2⟩:=Z84 hq hl r.id it (k:=2) ko ko;push_cast;refine Q6 ?_;push_cast;refine Q5 (X21 hq r.id it) ?_;push_cast;refine Q4 (Zx h b1 b2 _) ?_;push_cast;exact trivial
theorem ring_Wait_a (r:Rg) (it v:Int):FnG Tryz.prog 244 [.agg (aRr q r),.ref js 0 0,.v (.int .i64 it),.v (.int .i64 v)] σ fun _ σ'=>σ'=σ.set jw (.obj 0 ((stW ws (q.word r.id it 1) (tokF r.serial it v)).map aInt)):=by refine Q3 Z94.2 mixed rfl ?_;simp only[Z94,qH];have ⟨b1,b2⟩:=Z84 hq hl r.id it (k:=1) ko ko;push_cast;refine Q6 ?_;push_cast;refine Q5 (ZM hq r.id it) ?_;push_cast;refine Q5 (Q77 q r it v) ?_;push_cast;refine Q4 (Zx h b1 b2 _) ?_;push_cast;exact trivial
theorem ring_End_a (r:Rg) (it:Int):FnG Tryz.prog 285 [.agg (aRr q r),.ref js 0 0,.v (.int .i64 it)] σ fun _ σ'=>σ'=σ.set jw (.obj 0 ((stW ws (q.word r.id it 3) (tokF r.serial it 0)).map aInt)):=by refine Q3 Xq.2 mixed rfl ?_;simp only[Xq,qH];have ⟨b1,b2⟩:=Z84 hq hl r.id it (k:=3) ko ko;push_cast;refine Q6 ?_;push_cast;refine Q5 (X22 hq r.id it) ?_;push_cast;refine Q5 (Q77 q r it 0) ?_;push_cast;refine Q4 (Zx h b1 b2 _) ?_;push_cast;exact trivial
theorem YS (r:Rg) (it st:Int):FnG Tryz.prog 240 [.agg (aRr q r),.ref js 0 0,.v (.int .i64 it),.v (.int .i64 st)] σ fun a σ'=>a=aBool (swW ws (q.word r.id it 1) (tokF r.serial it st)).1∧σ'=σ.set jw (.obj 0 ((swW ws (q.word r.id it 1) (tokF r.serial it st)).2.map aInt)):=by refine Q3 Z93.2 mixed rfl ?_;simp only[Z93,qH];have ⟨b1,b2⟩:=Z84 hq hl r.id it (k:=1) ko ko;push_cast;refine Q6 ?_;push_cast;refine Q5 (ZM hq r.id it) ?_;push_cast;refine Q5 (Q77 q r it st) ?_;push_cast;refine Q4 (X86 h b1 b2 _) ?_;push_cast[aBool];exact trivial
theorem X89 (r:Rg) (it:Int):FnG Tryz.prog 250 [.agg (aRr q r),.ref js 0 0,.v (.int .i64 it)] σ fun a σ'=>a=aBool (endedR q r ws it)∧σ'=σ:=by
 refine Q3 Z58.2 mixed rfl ?_;simp only[Z58,qH];have ⟨b1,b2⟩:=Z84 hq hl r.id it (k:=3) ko ko;push_cast;refine Q6 ?_;push_cast;refine Q5 (X22 hq r.id it) ?_;push_cast;refine Q4 (Xt h b1 b2) ?_;push_cast[aInt,aBool];refine Q5 (Q77 q r it 0) ?_;push_cast[aInt]
 first|exact rfl|exact ⟨rfl,trivial⟩|exact trivial
theorem ring_Sleep_a (r:Rg) (it:Int):FnG Tryz.prog 292 [.agg (aRr q r),.ref js 0 0,.v (.int .i64 it)] σ fun _ σ'=>σ'=σ.set jw (.obj 0 ((stW ws (q.nap r.id) (tokF r.serial it 0)).map aInt)):=by refine Q3 Z59.2 mixed rfl ?_;simp only[Z59,qH];have ⟨b1,b2⟩:=nap_lt hq hl r.id;push_cast;refine Q6 ?_;push_cast;refine Q5 (Xr hq r.id) ?_;push_cast;refine Q5 (Q77 q r it 0) ?_;push_cast;refine Q4 (Zx h b1 b2 _) ?_;push_cast;exact trivial
theorem Y87 (r:Rg) (it:Int):FnG Tryz.prog 287 [.agg (aRr q r),.ref js 0 0,.v (.int .i64 it)] σ fun a σ'=>a=aBool (decide (ldW ws (q.nap r.id)=tokF r.serial it 0))∧σ'=σ:=by
 refine Q3 Z17.2 mixed rfl ?_;simp only[Z17,qH];have ⟨b1,b2⟩:=nap_lt hq hl r.id;push_cast;refine Q6 ?_;push_cast;refine Q5 (Xr hq r.id) ?_;push_cast;refine Q4 (Xt h b1 b2) ?_;push_cast[aInt,aBool];refine Q5 (Q77 q r it 0) ?_;push_cast[aInt]
 first|exact rfl|exact ⟨rfl,trivial⟩|exact trivial
theorem ring_Rouse_a (r:Rg) (it:Int):FnG Tryz.prog 309 [.agg (aRr q r),.ref js 0 0,.v (.int .i64 it)] σ fun a σ'=>a=aBool (swW ws (q.nap r.id) (tokF r.serial it 0)).1∧σ'=σ.set jw (.obj 0 ((swW ws (q.nap r.id) (tokF r.serial it 0)).2.map aInt)):=by refine Q3 Z61.2 mixed rfl ?_;simp only[Z61,qH];have ⟨b1,b2⟩:=nap_lt hq hl r.id;push_cast;refine Q6 ?_;push_cast;refine Q5 (Xr hq r.id) ?_;push_cast;refine Q5 (Q77 q r it 0) ?_;push_cast;refine Q4 (X86 h b1 b2 _) ?_;push_cast[aBool];exact trivial
end
def aRt (q:Pm) (w:Rt):List AV:=[.v (.int .i64 q.W),.v (.int .i64 q.F),.v (.int .i64 q.T),.v (.int .i64 q.D),.v (.int .i64 w.r.id),.v (.int .i64 w.r.serial),.v (.int .i64 w.it),.v (.int .i64 w.counter),.v (.int .i64 w.stage),.v (.int .i64 w.next),.v (.int .i64 w.frame),.v (.bool w.got)]
section
variable (q:Pm) (w:Rt)
theorem aRti6:(aRt q w)[6]?=some (.v (.int .i64 w.it)):=(rfl)
theorem aRts6 (x:Int):(aRt q w).set 6 (.v (.int .i64 x))=aRt q { w with it:=x }:=(rfl)
theorem aRti7:(aRt q w)[7]?=some (.v (.int .i64 w.counter)):=(rfl)
theorem aRts7 (x:Int):(aRt q w).set 7 (.v (.int .i64 x))=aRt q { w with counter:=x }:=(rfl)
theorem aRti8:(aRt q w)[8]?=some (.v (.int .i64 w.stage)):=(rfl)
theorem aRts8 (x:Int):(aRt q w).set 8 (.v (.int .i64 x))=aRt q { w with stage:=x }:=(rfl)
theorem aRti9:(aRt q w)[9]?=some (.v (.int .i64 w.next)):=(rfl)
theorem aRts9 (x:Int):(aRt q w).set 9 (.v (.int .i64 x))=aRt q { w with next:=x }:=(rfl)
theorem aRti10:(aRt q w)[10]?=some (.v (.int .i64 w.frame)):=(rfl)
theorem aRts10 (x:Int):(aRt q w).set 10 (.v (.int .i64 x))=aRt q { w with frame:=x }:=(rfl)
theorem aRti11:(aRt q w)[11]?=some (.v (.bool w.got)):=(rfl)
theorem aRts11 (x:Bool):(aRt q w).set 11 (.v (.bool x))=aRt q { w with got:=x }:=(rfl)
theorem aRtc6:cellsA (some 6) (aRt q w)=some (.agg (aRr q w.r)):=by rw[XG _ _ (by simp[aRt])];rfl
theorem aRtl:12≤(aRt q w).length:=by simp[aRt]
theorem aRt_lt {k:Nat} (h:k < 12):k < (aRt q w).length:=Nat.lt_of_lt_of_le h (aRtl q w)
end
attribute [push_cast] aRti6 aRts6 aRti7 aRts7 aRti8 aRts8 aRti9 aRts9 aRti10 aRts10 aRti11 aRts11 aRtc6
def aPk (q:Pm) (w:Pk):List AV:=[.v (.int .i64 q.W),.v (.int .i64 q.F),.v (.int .i64 q.T),.v (.int .i64 q.D),.v (.int .i64 w.r.id),.v (.int .i64 w.r.serial),.v (.int .i64 w.it),.v (.int .i64 w.stage),.v (.int .i64 w.next),.v (.bool w.back)]
section
variable (q:Pm) (w:Pk)
theorem aPki6:(aPk q w)[6]?=some (.v (.int .i64 w.it)):=(rfl)
theorem aPks6 (x:Int):(aPk q w).set 6 (.v (.int .i64 x))=aPk q { w with it:=x }:=(rfl)
theorem aPki7:(aPk q w)[7]?=some (.v (.int .i64 w.stage)):=(rfl)
theorem aPks7 (x:Int):(aPk q w).set 7 (.v (.int .i64 x))=aPk q { w with stage:=x }:=(rfl)
theorem aPki8:(aPk q w)[8]?=some (.v (.int .i64 w.next)):=(rfl)
theorem aPks8 (x:Int):(aPk q w).set 8 (.v (.int .i64 x))=aPk q { w with next:=x }:=(rfl)
theorem aPki9:(aPk q w)[9]?=some (.v (.bool w.back)):=(rfl)
theorem aPks9 (x:Bool):(aPk q w).set 9 (.v (.bool x))=aPk q { w with back:=x }:=(rfl)
theorem aPkc6:cellsA (some 6) (aPk q w)=some (.agg (aRr q w.r)):=by rw[XG _ _ (by simp[aPk])];rfl
theorem aPkl:10≤(aPk q w).length:=by simp[aPk]
theorem aPk_lt {k:Nat} (h:k < 10):k < (aPk q w).length:=Nat.lt_of_lt_of_le h (aPkl q w)
end
attribute [push_cast] aPki6 aPks6 aPki7 aPks7 aPki8 aPks8 aPki9 aPks9 aPkc6
def aTw (q:Pm) (w:Tw) (t:List AV):List AV:=[.v (.int .i64 q.W),.v (.int .i64 q.F),.v (.int .i64 q.T),.v (.int .i64 q.D),.v (.int .i64 w.r.id),.v (.int .i64 w.r.serial),.v (.int .i64 w.it),.v (.int .i64 w.at_),.v (.bool w.over),.v (.bool w.won)]++t
section
variable (q:Pm) (w:Tw) (t:List AV)
theorem aTwi6:(aTw q w t)[6]?=some (.v (.int .i64 w.it)):=(rfl)
theorem aTws6 (x:Int):(aTw q w t).set 6 (.v (.int .i64 x))=aTw q { w with it:=x } t:=(rfl)
theorem aTwi7:(aTw q w t)[7]?=some (.v (.int .i64 w.at_)):=(rfl)
theorem aTws7 (x:Int):(aTw q w t).set 7 (.v (.int .i64 x))=aTw q { w with at_:=x } t:=(rfl)
theorem aTwi8:(aTw q w t)[8]?=some (.v (.bool w.over)):=(rfl)
theorem aTws8 (x:Bool):(aTw q w t).set 8 (.v (.bool x))=aTw q { w with over:=x } t:=(rfl)
theorem aTwi9:(aTw q w t)[9]?=some (.v (.bool w.won)):=(rfl)
theorem aTws9 (x:Bool):(aTw q w t).set 9 (.v (.bool x))=aTw q { w with won:=x } t:=(rfl)
theorem aTwc6:cellsA (some 6) (aTw q w t)=some (.agg (aRr q w.r)):=by rw[XG _ _ (by simp[aTw])];rfl
theorem aTwl:10≤(aTw q w t).length:=by simp[aTw]
theorem aTw_lt {k:Nat} (h:k < 10):k < (aTw q w t).length:=Nat.lt_of_lt_of_le h (aTwl q w t)
end
attribute [push_cast] aTwi6 aTws6 aTwi7 aTws7 aTwi8 aTws8 aTwi9 aTws9 aTwc6
theorem aTw10 (q:Pm) (w:Tw) (b:Bool):(aTw q w [.v (.bool b)])[10]?=some (.v (.bool b)):=(rfl)
attribute [push_cast] aTw10
def z6:List Value:=[.int .i64 0,.int .i64 0,.int .i64 0,.int .i64 0,.int .i64 0,.int .i64 0]
theorem cross_Look_a (q:Pm) (σ:Kx.St) (r:Rg) (it counter:Int):FnG Tryz.prog 236 [.agg (aRr q r),.v (.int .i64 it),.v (.int .i64 counter)] σ fun a σ'=>a=.ref σ.length 0 0∧σ'=σ++[.obj 0 (aRt q (rtLook r it counter))]:=by
 refine Q3 X76.2 mixed rfl ?_;simp only[X76,qH];have hb:fillA [AV.v (.int .i64 0),AV.v (.int .i64 0),AV.v (.int .i64 0),AV.v (.int .i64 0),AV.v (.int .i64 0),AV.v (.int .i64 0),AV.v (.int .i64 0),AV.v (.int .i64 0),AV.v (.int .i64 0),AV.v (.int .i64 0),AV.v (.int .i64 0),AV.v (.bool false)] [(0,6),(6,1),(7,1)] [.agg (aRr q r),.v (.int .i64 (IntKind.i64.wrap (it+1))),.v (.int .i64 counter)]=some (aRt q (rtLook r it counter)):=by simp[fillA,AV.cells,Value.cells,setAtA,aRr,aRt,rtLook]
 have hac:(AV.agg (aRt q (rtLook r it counter))).cells=aRt q (rtLook r it counter):=rfl;push_cast;refine Q6 ?_;push_cast[hb];refine Qs ?_;push_cast[hac];exact trivial
theorem cross_Stop_a (q:Pm) (σ:Kx.St) (r:Rg) (it stage:Int):FnG Tryz.prog 242 [.agg (aRr q r),.v (.int .i64 it),.v (.int .i64 stage)] σ fun a σ'=>a=.ref σ.length 0 0∧σ'=σ++[.obj 0 (aPk q (pkStop r it stage))]:=by
 refine Q3 X78.2 mixed rfl ?_;simp only[X78,qH];have hb:fillA [AV.v (.int .i64 0),AV.v (.int .i64 0),AV.v (.int .i64 0),AV.v (.int .i64 0),AV.v (.int .i64 0),AV.v (.int .i64 0),AV.v (.int .i64 0),AV.v (.int .i64 0),AV.v (.int .i64 0),AV.v (.bool false)] [(0,6),(6,1),(7,1)] [.agg (aRr q r),.v (.int .i64 it),.v (.int .i64 stage)]=some (aPk q (pkStop r it stage)):=by simp[fillA,AV.cells,Value.cells,setAtA,aRr,aPk,pkStop]
 have hac:(AV.agg (aPk q (pkStop r it stage))).cells=aPk q (pkStop r it stage):=rfl;push_cast;refine Q6 ?_;push_cast[hb];refine Qs ?_;push_cast[hac];exact trivial
theorem Y1 (q:Pm) (σ:Kx.St) (r:Rg) (it:Int):FnG Tryz.prog 251 [.agg (aRr q r),.v (.int .i64 it)] σ fun a σ'=>a=.ref σ.length 0 0∧σ'=σ++[.obj 0 (aTw q (napNew r it) [])]:=by
 refine Q3 Z95.2 mixed rfl ?_;simp only[Z95,qH];have hb:fillA [AV.v (.int .i64 0),AV.v (.int .i64 0),AV.v (.int .i64 0),AV.v (.int .i64 0),AV.v (.int .i64 0),AV.v (.int .i64 0),AV.v (.int .i64 0),AV.v (.int .i64 0),AV.v (.bool false),AV.v (.bool false)] [(0,6),(6,1)] [.agg (aRr q r),.v (.int .i64 it)]=some (aTw q (napNew r it) []):=by simp[fillA,AV.cells,Value.cells,setAtA,aRr,aTw,napNew]
 have hb2:fillA [AV.v (.int .i64 0),AV.v (.int .i64 0),AV.v (.int .i64 0),AV.v (.int .i64 0),AV.v (.int .i64 0),AV.v (.int .i64 0),AV.v (.int .i64 0),AV.v (.int .i64 0),AV.v (.bool false),AV.v (.bool false)] [(0,10)] [.agg (aTw q (napNew r it) [])]=some (aTw q (napNew r it) []):=by simp[fillA,AV.cells,Value.cells,setAtA,aTw,napNew]
 have hac:(AV.agg (aTw q (napNew r it) [])).cells=aTw q (napNew r it) []:=rfl;push_cast;refine Q6 ?_;push_cast[hb,hb2];refine Qs ?_;push_cast[hac];exact trivial
theorem Y2 (q:Pm) (σ:Kx.St) (r:Rg) (it:Int) (lk:Bool):FnG Tryz.prog 173 [.agg (aRr q r),.v (.int .i64 it),.v (.bool lk)] σ fun a σ'=>a=.ref σ.length 0 0∧σ'=σ++[.obj 0 (aTw q (wakeNew r it lk) [.v (.bool lk)])]:=by
 refine Q3 Z91.2 mixed rfl ?_;simp only[Z91,qH];have hb:fillA [AV.v (.int .i64 0),AV.v (.int .i64 0),AV.v (.int .i64 0),AV.v (.int .i64 0),AV.v (.int .i64 0),AV.v (.int .i64 0),AV.v (.int .i64 0),AV.v (.int .i64 0),AV.v (.bool false),AV.v (.bool false)] [(0,6),(6,1)] [.agg (aRr q r),.v (.int .i64 it)]=some (aTw q (wakeNew r it lk) []):=by simp[fillA,AV.cells,Value.cells,setAtA,aRr,aTw,wakeNew]
 have hb2:fillA [AV.v (.int .i64 0),AV.v (.int .i64 0),AV.v (.int .i64 0),AV.v (.int .i64 0),AV.v (.int .i64 0),AV.v (.int .i64 0),AV.v (.int .i64 0),AV.v (.int .i64 0),AV.v (.bool false),AV.v (.bool false),AV.v (.bool false)] [(0,10),(10,1)] [.agg (aTw q (wakeNew r it lk) []),.v (.bool lk)]=some (aTw q (wakeNew r it lk) [.v (.bool lk)]):=by simp[fillA,AV.cells,Value.cells,setAtA,aTw,wakeNew]
 have hac:(AV.agg (aTw q (wakeNew r it lk) [.v (.bool lk)])).cells=aTw q (wakeNew r it lk) [.v (.bool lk)]:=rfl;push_cast;refine Q6 ?_;push_cast[hb,hb2];refine Qs ?_;push_cast[hac];exact trivial
section
variable {q:Pm} {σ:Kx.St} {jd js jw:Nat}
theorem right_Got_a {w:Rt} (hd:σ[jd]?=some (.obj 0 (aRt q w))):FnG Tryz.prog 171 [.ref jd 0 0] σ fun a σ'=>a=.tup [aInt w.frame,aBool w.got]∧σ'=σ:=by refine Q3 Z53.2 mixed rfl ?_;simp only[Z53,qH];push_cast[hd,aInt,aBool];exact trivial
theorem park_Back_a {w:Pk} (hd:σ[jd]?=some (.obj 0 (aPk q w))):FnG Tryz.prog 178 [.ref jd 0 0] σ fun a σ'=>a=aBool w.back∧σ'=σ:=by refine Q3 Z55.2 mixed rfl ?_;simp only[Z55,qH];push_cast[hd,aBool];exact oe
theorem nap_Back_a {w:Tw} (hd:σ[jd]?=some (.obj 0 (aTw q w []))):FnG Tryz.prog 253 [.ref jd 0 0] σ fun a σ'=>a=aBool w.won∧σ'=σ:=by refine Q3 ZL.2 mixed rfl ?_;simp only[ZL,qH];push_cast[hd,aBool];exact oe
theorem wake_Got_a {w:Tw} (hd:σ[jd]?=some (.obj 0 (aTw q w [.v (.bool w.looks)]))):FnG Tryz.prog 246 [.ref jd 0 0] σ fun a σ'=>a=aBool w.won∧σ'=σ:=by refine Q3 ZJ.2 mixed rfl ?_;simp only[ZJ,qH];push_cast[hd,aBool];exact oe
theorem X28 {w:Tw} {t:List AV} (hd:σ[jd]?=some (.obj 0 (aTw q w t))) (on:Bool):FnG Tryz.prog 286 [.ref jd 0 0,.v (.bool on)] σ fun _ σ'=>σ'=σ.set jd (.obj 0 (aTw q (w.go on) t)):=by refine Q3 Q95.2 mixed rfl ?_;simp only[Q95,qH];have hlt:=Qh hd;have hl:=aTwl q w t;push_cast[hd];refine Q9 rfl rfl hd ka ?_;push_cast;refine Q9 rfl rfl (Qb hd) (aTw_lt _ _ _ ko) ?_;push_cast[List.set_set];exact oa
end
section
variable {q:Pm} {σ:Kx.St} {jd js jw:Nat} {ws:List Int} (hq:q.Ok) (h:Wd σ js jw ws) (hl:(ws.length:Int)=q.size) (n1:jd≠js) (n2:jd≠jw)
include hq h hl n1 n2
theorem Y47 {w:Tw} {t:List AV} (hd:σ[jd]?=some (.obj 0 (aTw q w t))):FnG Tryz.prog 288 [.ref jd 0 0,.ref js 0 0] σ fun _ σ'=>σ'=(σ.set jw (.obj 0 ((rouse q w ws).2.map aInt))).set jd (.obj 0 (aTw q (rouse q w ws).1 t)):=by refine Q3 Q73.2 mixed rfl ?_;simp only[Q73,qH];have hlt:=Qh hd;have hll:=aTwl q w t;push_cast[hd];refine Q4 (ring_Rouse_a hq h hl w.r w.it) ?_;push_cast[aBool];refine Q9 rfl rfl (Qa n2.symm hd) ka ?_;push_cast;refine Q9 rfl rfl (Qb (Qa n2.symm hd)) (aTw_lt _ _ _ ko) ?_;push_cast[List.set_set];exact oa
theorem nap_Step_a {w:Tw} (hd:σ[jd]?=some (.obj 0 (aTw q w []))):FnG Tryz.prog 252 [.ref jd 0 0,.ref js 0 0] σ fun a σ'=>a=aBool (napStep q w ws).1.over∧σ'=(σ.set jw (.obj 0 ((napStep q w ws).2.map aInt))).set jd (.obj 0 (aTw q (napStep q w ws).1 [])):=by
 refine Q3 ZK.2 mixed rfl ?_;simp only[ZK,qH];have hlt:=Qh hd;by_cases c0:w.over=true
 ·have e:napStep q w ws=(w,ws):=by simp[napStep,c0]
  rw[e];simp only;rw[h.self,Q20 hd,c0];push_cast (disch:=omega)[hd,c0,aBool];exact trivial
 have c0':w.over=false:=by simpa using c0
 by_cases c1:w.at_=0
 ·have e:napStep q w ws=(w.go true,stW ws (q.nap w.r.id) (tokF w.r.serial w.it 0)):=by simp[napStep,c0',c1]
  rw[e];push_cast (disch:=omega)[hd,c0',c1,aBool];refine Q0 (ring_Sleep_a hq h hl w.r w.it) ?_;rintro a σ' rfl;push_cast (disch:=omega)[hd];refine Q0 (X28 (Qa n2.symm hd) true) ?_;rintro a σ' rfl;push_cast (disch:=omega)[Tw.go];exact oa
 by_cases c2:w.at_=1
 ·have e:napStep q w ws=(w.go (endedR q w.r ws w.it),ws):=by simp[napStep,c0',c2]
  rw[e];simp only;rw[h.self];push_cast (disch:=omega)[hd,c0',c1,c2,aBool];refine Q4 (X89 hq h hl w.r w.it) ?_;push_cast (disch:=omega)[hd,aBool];refine Q0 (X28 hd _) ?_;rintro a σ' rfl;push_cast (disch:=omega)[Tw.go];exact oa
 have e:napStep q w ws=rouse q w ws:=by simp[napStep,c0',c1,c2]
 rw[e];push_cast (disch:=omega)[hd,c0',c1,c2,aBool];refine Q0 (Y47 hq h hl n1 n2 hd) ?_;rintro a σ' rfl;push_cast (disch:=omega)[rouse];exact oa
theorem wake_Step_a {w:Tw} (hd:σ[jd]?=some (.obj 0 (aTw q w [.v (.bool w.looks)]))):FnG Tryz.prog 245 [.ref jd 0 0,.ref js 0 0] σ fun a σ'=>a=aBool (wakeStep q w ws).1.over∧σ'=(σ.set jw (.obj 0 ((wakeStep q w ws).2.map aInt))).set jd (.obj 0 (aTw q (wakeStep q w ws).1 [.v (.bool w.looks)])):=by
 refine Q3 Q93.2 mixed rfl ?_;simp only[Q93,qH];have hlt:=Qh hd;by_cases c0:w.over=true
 ·have e:wakeStep q w ws=(w,ws):=by simp[wakeStep,c0]
  rw[e];simp only;rw[h.self,Q20 hd,c0];push_cast (disch:=omega)[hd,c0,aBool];exact trivial
 have c0':w.over=false:=by simpa using c0
 by_cases c1:w.at_=0
 ·have e:wakeStep q w ws=(w.go w.looks,stW ws (q.word w.r.id w.it 3) (tokF w.r.serial w.it 0)):=by simp[wakeStep,c0',c1]
  rw[e];push_cast (disch:=omega)[hd,c0',c1,aBool];refine Q0 (ring_End_a hq h hl w.r w.it) ?_;rintro a σ' rfl;push_cast (disch:=omega)[hd];refine Q0 (X28 (Qa n2.symm hd) w.looks) ?_;rintro a σ' rfl;push_cast (disch:=omega)[Tw.go];exact oa
 by_cases c2:w.at_=1
 ·have e:wakeStep q w ws=(w.go (decide (ldW ws (q.nap w.r.id)=tokF w.r.serial w.it 0)),ws):=by simp[wakeStep,c0',c2]
  rw[e];simp only;rw[h.self];push_cast (disch:=omega)[hd,c0',c1,c2,aBool];refine Q4 (Y87 hq h hl w.r w.it) ?_;push_cast (disch:=omega)[hd,aBool];refine Q0 (X28 hd _) ?_;rintro a σ' rfl;push_cast (disch:=omega)[Tw.go];exact oa
 have e:wakeStep q w ws=rouse q w ws:=by simp[wakeStep,c0',c1,c2]
 rw[e];push_cast (disch:=omega)[hd,c0',c1,c2,aBool];refine Q0 (Y47 hq h hl n1 n2 hd) ?_;rintro a σ' rfl;push_cast (disch:=omega)[rouse];exact oa
theorem right_Step_a {w:Rt} (hd:σ[jd]?=some (.obj 0 (aRt q w))):FnG Tryz.prog 170 [.ref jd 0 0,.ref js 0 0] σ fun a σ'=>a=aBool (decide ((rtStep q w ws).1.next=3))∧σ'=(σ.set jw (.obj 0 ((rtStep q w ws).2.map aInt))).set jd (.obj 0 (aRt q (rtStep q w ws).1)):=by
 refine Q3 Z14.2 mixed rfl ?_;simp only[Z14,qH];have hlt:=Qh hd;have hlt2:∀(w:Rt) {k:Nat},k < 12→k < (aRt q w).length:=fun w=>aRt_lt q w;by_cases c0:w.next=0
 ·have e:rtStep q w ws=({ w with stage:=(w.r.may (ldW ws (q.word w.r.id w.it 1)) w.it w.counter).1,next:=goesN (w.r.may (ldW ws (q.word w.r.id w.it 1)) w.it w.counter).2 1 },ws):=by simp[rtStep,c0]
  rw[e];simp only;rw[h.self];push_cast (disch:=omega)[hd,c0];refine Q4 (ring_Waits_a hq h hl w.r w.it) ?_;push_cast (disch:=omega)[hd,aInt];refine Q5 (ring_May_a q w.r _ w.it w.counter) ?_;push_cast (disch:=omega)[hd,aInt,aBool];refine Q5 (goes_a _ 1) ?_;push_cast (disch:=omega)[hd,aInt,aBool];refine Q9 rfl rfl hd (hlt2 _ ko) ?_;push_cast (disch:=omega);refine Q9 rfl rfl (Qb hd) (hlt2 _ ko) ?_;push_cast (disch:=omega)[List.set_set,aBool];exact oa
 by_cases c1:w.next=1
 ·have e:rtStep q w ws=({ w with next:=goesN (swW ws (q.word w.r.id w.it 1) (tokF w.r.serial w.it w.stage)).1 2 },(swW ws (q.word w.r.id w.it 1) (tokF w.r.serial w.it w.stage)).2):=by simp[rtStep,c1]
  rw[e];push_cast (disch:=omega)[hd,c0,c1];refine Q4 (YS hq h hl w.r w.it w.stage) ?_;push_cast (disch:=omega)[hd,aBool];refine Q5 (goes_a _ 2) ?_;push_cast (disch:=omega)[hd,aInt,aBool];refine Q9 rfl rfl (Qa n2.symm hd) (hlt2 _ ko) ?_;push_cast (disch:=omega)[aBool];exact oa
 by_cases c2:w.next=2
 ·have e:rtStep q w ws=({ w with frame:=ldW ws (q.word w.r.id w.it 2),got:=true,next:=3 },ws):=by simp[rtStep,c2]
  rw[e];simp only;rw[h.self];push_cast (disch:=omega)[hd,c0,c1,c2];refine Q4 (ring_Frame_a hq h hl w.r w.it) ?_;push_cast (disch:=omega)[hd,aInt];refine Q9 rfl rfl hd (hlt2 _ ko) ?_;push_cast (disch:=omega);refine Q9 rfl rfl (Qb hd) (hlt2 _ ko) ?_;push_cast (disch:=omega);refine Q9 rfl rfl (Qb (Qb hd)) (hlt2 _ ko) ?_;push_cast (disch:=omega)[List.set_set,aBool];exact oa
 have e:rtStep q w ws=(w,ws):=by simp[rtStep,c0,c1,c2]
 rw[e];simp only;rw[h.self,Q20 hd];push_cast (disch:=omega)[hd,c0,c1,c2,aBool];exact oa
theorem park_Step_a {w:Pk} (hd:σ[jd]?=some (.obj 0 (aPk q w))):FnG Tryz.prog 177 [.ref jd 0 0,.ref js 0 0] σ fun a σ'=>a=aBool (decide ((pkStep q w ws).1.next=3))∧σ'=(σ.set jw (.obj 0 ((pkStep q w ws).2.map aInt))).set jd (.obj 0 (aPk q (pkStep q w ws).1)):=by
 refine Q3 Z54.2 mixed rfl ?_;simp only[Z54,qH];have hlt:=Qh hd;have hlt2:∀(w:Pk) {k:Nat},k < 10→k < (aPk q w).length:=fun w=>aPk_lt q w;by_cases c0:w.next=0
 ·have e:pkStep q w ws=({ w with next:=1 },stW ws (q.word w.r.id w.it 1) (tokF w.r.serial w.it w.stage)):=by simp[pkStep,c0]
  rw[e];push_cast (disch:=omega)[hd,c0];refine Q0 (ring_Wait_a hq h hl w.r w.it w.stage) ?_;rintro a σ' rfl;push_cast (disch:=omega)[hd];refine Q9 rfl rfl (Qa n2.symm hd) (hlt2 _ ko) ?_;push_cast (disch:=omega)[aBool];exact oa
 by_cases c1:w.next=1
 ·have e:pkStep q w ws=({ w with next:=goesN (decide (w.stage < ldW ws (q.word w.r.id (w64 (w.it - 1)) 0))) 2 },ws):=by simp[pkStep,c1]
  rw[e];simp only;rw[h.self];push_cast (disch:=omega)[hd,c0,c1];refine Q4 (YQ hq h hl w.r _) ?_;push_cast (disch:=omega)[hd,aInt];refine Q5 (goes_a _ 2) ?_;push_cast (disch:=omega)[hd,aInt,aBool];refine Q9 rfl rfl hd (hlt2 _ ko) ?_;push_cast (disch:=omega)[aBool];exact oa
 by_cases c2:w.next=2
 ·have e:pkStep q w ws=({ w with back:=(swW ws (q.word w.r.id w.it 1) (tokF w.r.serial w.it w.stage)).1,next:=3 },(swW ws (q.word w.r.id w.it 1) (tokF w.r.serial w.it w.stage)).2):=by simp[pkStep,c2]
  rw[e];push_cast (disch:=omega)[hd,c0,c1,c2];refine Q4 (YS hq h hl w.r w.it w.stage) ?_;push_cast (disch:=omega)[hd,aBool];refine Q9 rfl rfl (Qa n2.symm hd) (hlt2 _ ko) ?_;push_cast (disch:=omega);refine Q9 rfl rfl (Qb (Qa n2.symm hd)) (hlt2 _ ko) ?_;push_cast (disch:=omega)[List.set_set,aBool];exact oa
 have e:pkStep q w ws=(w,ws):=by simp[pkStep,c0,c1,c2]
 rw[e];simp only;rw[h.self,Q20 hd];push_cast (disch:=omega)[hd,c0,c1,c2,aBool];exact oa
end
end Go.Proofs.YtelibaobkcokdaaGreat.Mx
namespace Go.Proofs.YtelibaobkcokdaaGreat
open Go Go.Kx Go.Proofs
set_option linter.unusedVariables false
set_option maxRecDepth 100000
set_option maxHeartbeats 16000000
noncomputable def XL:=qH Tryz.prog 44
noncomputable def Z26:=qH Tryz.prog 46
noncomputable def Xv:=qH Tryz.prog 47
noncomputable def Xw:=qH Tryz.prog 48
noncomputable def Z71:=qH Tryz.prog 50
noncomputable def Z27:=qH Tryz.prog 56
noncomputable def Z28:=qH Tryz.prog 57
noncomputable def Xx:=qH Tryz.prog 58
noncomputable def X29:=qH Tryz.prog 59
noncomputable def Xa:=qH Tryz.prog 61
noncomputable def Z29:=qH Tryz.prog 63
noncomputable def Xb:=qH Tryz.prog 66
noncomputable def Z72:=qH Tryz.prog 67
noncomputable def X90:=qH Tryz.prog 78
noncomputable def YT:=qH Tryz.prog 80
noncomputable def Y48:=qH Tryz.prog 82
noncomputable def S_log_New:=qH Tryz.prog 83
noncomputable def Q07:=qH Tryz.prog 84
noncomputable def YU:=qH Tryz.prog 86
noncomputable def Z30:=qH Tryz.prog 87
noncomputable def X91:=qH Tryz.prog 88
noncomputable def QM:=qH Tryz.prog 89
noncomputable def Z31:=qH Tryz.prog 90
noncomputable def QN:=qH Tryz.prog 110
noncomputable def X30:=qH Tryz.prog 111
noncomputable def Z32:=qH Tryz.prog 112
noncomputable def Xc:=qH Tryz.prog 115
noncomputable def YV:=qH Tryz.prog 134
noncomputable def Z33:=qH Tryz.prog 135
noncomputable def Xd:=qH Tryz.prog 146
noncomputable def XY:=qH Tryz.prog 148
noncomputable def Xe:=qH Tryz.prog 151
noncomputable def Xy:=qH Tryz.prog 156
noncomputable def Xf:=qH Tryz.prog 158
noncomputable def Z34:=qH Tryz.prog 195
noncomputable def Z35:=qH Tryz.prog 212
noncomputable def Z36:=qH Tryz.prog 247
noncomputable def Z37:=qH Tryz.prog 255
noncomputable def ZR:=qH Tryz.prog 274
noncomputable def Z38:=qH Tryz.prog 275
noncomputable def Z39:=qH Tryz.prog 276
noncomputable def Z40:=qH Tryz.prog 289
end Go.Proofs.YtelibaobkcokdaaGreat
namespace Go.Proofs.YtelibaobkcokdaaGreat.Us
set_option linter.unusedVariables false
set_option linter.unusedSimpArgs false
open Go Go.RowKit Go.Shelf Go.Proofs
attribute [local go_sem] Oper.semAt_some
def usedC (l:List Bool):Nat:=l.countP id
theorem X31 (l:List Bool) {k:Nat} {b:Bool} (h:l[k]?=some b):usedC (l.take (k+1))=usedC (l.take k)+(if b then 1 else 0):=by rw[List.take_add_one,h];simp[usedC,List.countP_append]
theorem used_lt (l:List Bool) {k:Nat} (h:l[k]?=some true):usedC (l.take k) < usedC l:=by have h1:=X31 l h;have h2:usedC (l.take (k+1))≤usedC l:=(List.take_sublist _ _).countP_le;simp only[if_true] at h1;omega
theorem all1_in (F:Fence) (n:Nat) (hf:F.fn 259) (hro:F.round=none) (hn:1≤n) (lp n₀ Bb bA oA bH oH cap:Nat) (l:List Bool) (hl:l.length≤1000000) (hH:0 < l.length→bH < n₀) (J Jx:List Nat→World→Prop)
  (hY:∀(pre:List Nat) (x:Nat) (W:World),J pre W→pre.length < usedC l→YieldAt F (n - 1) Tryz.prog lp #[.int .i64 (x:Int)] W fun e W'=>(e=.returned (.bool true)∧J (pre++[x]) W'∧Below n₀ W W')∨(e=.returned (.bool false)∧Jx (pre++[x]) W'))
  (W:World) (hb:W.cell? ⟨Bb,0,none⟩=some (.pointer (some ⟨bA,oA,none⟩))) (ha:W.cell? ⟨bA,oA,none⟩=some (.slice (some ⟨bH,oH,none⟩) l.length cap))
  (hc:∀(k:Nat) (x:Bool),l[k]?=some x→W.cell? ⟨bH,oH+k,none⟩=some (.bool x)) (h0:J [] W):
  CallsIn F n Tryz.prog 259 #[.func (.yield lp) #[] #[],.pointer (some ⟨Bb,0,none⟩)] W fun e W'=>(∃v,e=.returned v)∧((∃xs:List Nat,xs.length=usedC l∧J xs W')∨∃pre,True∧Jx pre W'):=by
 refine callsIn_of_wp Tryz.func259 rfl hf ?_ hro;simp only[Tryz.ntmps259,List.size_toArray,List.length_cons,List.length_nil,Nat.reduceAdd,Nat.reduceSub,Array.replicate_succ,Array.replicate_zero,List.push_toArray,List.append_toArray,List.nil_append,List.cons_append];have HC:Hid (∀(k:Nat) (x:Bool),l[k]?=some x→W.cell? ⟨bH,oH+k,none⟩=some (.bool x)):=hc;clear hc
 gi_wp2
 gi_loopw [12] (fun i wr=>∃(k:Nat) (pre:List Nat),i=.int .i64 k∧k≤l.length∧pre.length=usedC (l.take k)∧J pre wr∧Below n₀ W wr) (fun i _=>l.length - (intOf i).toNat)
 case atStart=>exact ⟨0,[],rfl,Nat.zero_le _,rfl,h0,Below.refl _ _⟩
 case round=>
  obtain ⟨k,pre,rfl,hk,hp,hJ,hB⟩:=hrel;by_cases hlt:k < l.length
  ·have hx:l[k]?=some l[k]:=List.getElem?_eq_getElem hlt;have hcell:wr.cell? ⟨bH,oH+k,none⟩=some (.bool l[k]):=by rw[hB.cell (p:=⟨bH,oH+k,none⟩) (hH ka)];exact HC.out k _ hx
   have ht:=X31 l hx
   cases hxv:l[k] with
   | false=>
    rw[hxv] at hcell ht
    gi_wp2
    refine ⟨fun _ h=>(by cases h),?_⟩
    gi_wp2
    exact ⟨⟨k+1,pre,rfl,by omega,by rw[ht,hp];simp,hJ,hB⟩,by simp[intOf];omega⟩
   | true=>
    rw[hxv] at hcell ht hx;obtain ⟨fn,tmps,assign,body,hy,hR⟩:=hY pre k wr hJ (by rw[hp];exact used_lt l hx)
    gi_wp2
    refine hR.mono ?_;rintro e W3 (⟨rfl,hJ3,hk3⟩|⟨rfl,h⟩)
    ·gi_wp2
     exact ⟨⟨k+1,pre++[k],rfl,by omega,by rw[ht,List.length_append,hp];simp,hJ3,hB.trans hk3⟩,by simp[intOf];omega⟩
    ·gi_wp2
     first|go_end0|refine bodyPost_ret (results_none rfl _ _ _) rfl ?_
     exact ⟨⟨_,rfl⟩,.inr ⟨_,trivial,h⟩⟩
  ·obtain rfl:k=l.length:=by omega
   rw[List.take_length] at hp
   gi_wp2
   go_end0
   exact ⟨⟨_,rfl⟩,.inl ⟨pre,hp,hJ⟩⟩
theorem All_in (F:Fence) (n:Nat) (hf:F.fn 192) (hro:F.round=none) (bA oA:Nat) (w:World):
  CallsIn F n Tryz.prog 192 #[.pointer (some ⟨bA,oA,none⟩)] w fun e w'=>e=.returned (.func (.func 259) #[] #[.pointer (some ⟨w.heap.size,0,none⟩)])∧w'=w.alloc (.cells #[.pointer (some ⟨bA,oA,none⟩)] 169):=by
 refine callsIn_of_wp Tryz.func192 rfl hf ?_ hro;simp only[Tryz.ntmps192,List.size_toArray,List.length_cons,List.length_nil,Nat.reduceAdd,Nat.reduceSub,Array.replicate_succ,Array.replicate_zero,List.push_toArray,List.append_toArray,List.nil_append,List.cons_append]
 gi_wp2
 go_ret
 exact ⟨rfl,rfl⟩
theorem Used_in (bA oA bH oH cap:Nat) (l:List Bool) (hl:l.length≤1000000) (w:World) (ha:w.cell? ⟨bA,oA,none⟩=some (.slice (some ⟨bH,oH,none⟩) l.length cap))
  (hc:∀(k:Nat) (x:Bool),l[k]?=some x→w.cell? ⟨bH,oH+k,none⟩=some (.bool x)):
  Calls Tryz.prog 109 #[.pointer (some ⟨bA,oA,none⟩)] w fun e w'=>e=.returned (.int .i64 (usedC l))∧Below w.heap.size w w':=by
 refine (callsIn_wide (n:=3)).1 ?_
 have hA:bA < w.heap.size:=by
  rcases Nat.lt_or_ge bA w.heap.size with h|h
  ·exact h
  ·simp[World.cell?,Array.getElem?_eq_none h] at ha
 have hH:0 < l.length→bH < w.heap.size:=fun h=>by
  have:=hc 0 l[0] (List.getElem?_eq_getElem h);rcases Nat.lt_or_ge bH w.heap.size with h|h
  ·exact h
  ·simp[World.cell?,Array.getElem?_eq_none h] at this
 refine callsIn_of_wp_marks Tryz.func109 rfl trivial ?_ rfl;simp only[Tryz.ntmps109,List.size_toArray,List.length_cons,List.length_nil,Nat.reduceAdd,Nat.reduceSub,Array.replicate_succ,Array.replicate_zero,List.push_toArray,List.append_toArray,List.nil_append,List.cons_append]
 gi_wp2_with (refine ⟨trivial,?_⟩;gi_at_call 192;refine (All_in Fence.wide 2 trivial rfl _ _ _).mono ?_;rintro e w' ⟨rfl,rfl⟩)
 have hs1:((w.alloc (.cells #[.int .i64 0] 3)).alloc (.cells #[.pointer (some ⟨bA,oA,none⟩)] 169)).cell? ⟨w.heap.size,0,none⟩=some (.int .i64 0):=by rw[World.cell?_alloc_lt _ _ ⟨w.heap.size,0,none⟩ ke];simp
 have hs2:((w.alloc (.cells #[.int .i64 0] 3)).alloc (.cells #[.pointer (some ⟨bA,oA,none⟩)] 169)).frozen? ⟨w.heap.size,0,none⟩=false:=by simp
 have hb1:((w.alloc (.cells #[.int .i64 0] 3)).alloc (.cells #[.pointer (some ⟨bA,oA,none⟩)] 169)).cell? ⟨w.heap.size+1,0,none⟩=some (.pointer (some ⟨bA,oA,none⟩)):=by simp
 have B0:Below w.heap.size w ((w.alloc (.cells #[.int .i64 0] 3)).alloc (.cells #[.pointer (some ⟨bA,oA,none⟩)] 169)):=((Below.refl _ w).alloc (Nat.le_refl _) _).alloc ke _
 have hseq:SeqStopsK Fence.wide 2 Tryz.prog 259 #[.pointer (some ⟨w.heap.size+1,0,none⟩)] (fun x:Nat=>#[.int .i64 (x:Int)]) (Below w.heap.size) (fun xs=>xs.length=usedC l) (fun _=>True) (usedC l)
   ((w.alloc (.cells #[.int .i64 0] 3)).alloc (.cells #[.pointer (some ⟨bA,oA,none⟩)] 169)):=by
  intro lp J Jx W hW hJ hJx hY h0;have hsz:((w.alloc (.cells #[.int .i64 0] 3)).alloc (.cells #[.pointer (some ⟨bA,oA,none⟩)] 169)).heap.size=w.heap.size+2:=by simp
  have bl:∀{b o:Nat} {v:Value},b < w.heap.size→w.cell? ⟨b,o,none⟩=some v→W.cell? ⟨b,o,none⟩=some v:=fun hb h=>by rw[hW.cell (p:=⟨_,_,none⟩) (by rw[hsz];exact Nat.lt_add_right 2 hb),B0.cell (p:=⟨_,_,none⟩) hb];exact h
  have hbx:W.cell? ⟨w.heap.size+1,0,none⟩=some (.pointer (some ⟨bA,oA,none⟩)):=by rw[hW.cell (p:=⟨_,_,none⟩) (by rw[hsz];exact Nat.lt_succ_self (w.heap.size+1))];exact hb1
  exact all1_in Fence.wide 2 trivial rfl ko lp w.heap.size (w.heap.size+1) bA oA bH oH cap l hl hH J Jx hY W hbx (bl hA ha) (fun k x hx=>bl (hH (by have:=(List.getElem?_eq_some_iff.1 hx).1;omega)) (hc k x hx)) h0
 refine wpIn_rangeFunc_ownF rfl ko (gf:=259) (lb:=#[.pointer (some ⟨w.heap.size+1,0,none⟩)]) rfl trivial (enters_of Tryz.func259 (by kernel_rfl) rfl)
  hseq belowK_t (belowK_b eG) (Below.refl _ _) (fun _=>rfl)
  (fun pre W=>(W.cell? ⟨w.heap.size,0,none⟩=some (.int .i64 (pre.length:Int))∧W.frozen? ⟨w.heap.size,0,none⟩=false)∧Below w.heap.size w W)
  (fun _ _ _=>False)
  (OwnFrom.and (Own.from (fun s A B row hs hg hr=>⟨cell_kept hs.1 hg hr,(frozen_kept hs.1 hg hr).trans hs.2⟩) _) (ownFrom_below (Nat.le_refl _) eG))
  (fun _ _ _ _ _ hs _ _=>hs)
  ⟨⟨hs1,hs2⟩,B0⟩
  (fun x=>{ tmps:=#[.pointer (some ⟨bA,oA,none⟩),undef,.int .i64 0,.pointer (some ⟨w.heap.size,0,none⟩),.pointer (some ⟨bA,oA,none⟩),.func (.func 259) #[] #[.pointer (some ⟨w.heap.size+1,0,none⟩)],.int .i64 (x:Int),undef,undef,undef],defers:=[] }) ?assign ?body ?done ?stop
 case assign=>
  intro l x W K hK
  gi_wp2
  simpa using hK
 case body=>
  rintro l2 pre x W ⟨⟨hc,hf⟩,hB⟩ hlt;have hul:usedC l≤l.length:=List.countP_le_length
  gi_wp2
  exact ⟨KeepsOthers.setCell _ _ _,(Below.refl w.heap.size W).setCell (p:=⟨w.heap.size,0,none⟩) (Nat.le_refl _) _,⟨by rw[List.length_append];exact World.cell?_setCell_same' _ _ _ (by rw[hc];rfl),by rw[World.frozen?_setCell];exact hf⟩,hB.setCell (p:=⟨w.heap.size,0,none⟩) (Nat.le_refl _) _⟩
 case done=>
  rintro D ys W hD hl ⟨⟨hc,hf⟩,hB⟩ hK
  gi_wp2
  refine ⟨by simp,.inl ⟨_,_,rfl,run_takeDeferred hK,?_⟩⟩;exact ⟨_,results_tmp rfl _ _ _,rfl,hB.trans (belowK_b (w:=w) (Nat.le_refl _) W D _ _ (by simp at hD;omega) hK rfl rfl)⟩
 case stop=>rintro D c pre W _ _ h _;exact h.elim
end Go.Proofs.YtelibaobkcokdaaGreat.Us
namespace Go.Proofs.YtelibaobkcokdaaGreat.Mx
set_option linter.unusedVariables false
set_option linter.unusedSimpArgs false
open Go Go.Kx Go.Proofs Go.Proofs.YtelibaobkcokdaaGreat
set_option maxRecDepth 8000
theorem X31 (l:List Bool) {k:Nat} {b:Bool} (h:l[k]?=some b):usedN (l.take (k+1))=usedN (l.take k)+(if b then 1 else 0):=by rw[List.take_add_one,h];simp[usedN,List.countP_append]
theorem used_le (l:List Bool):usedN l≤l.length:=List.countP_le_length
theorem used_lt (l:List Bool) {k:Nat} (h:l[k]?=some true):usedN (l.take k) < usedN l:=by have h1:=X31 l h;have h2:usedN (l.take (k+1))≤usedN l:=(List.take_sublist _ _).countP_le;simp only[if_true] at h1;omega
theorem relH_growB {base:Heap} {G:Gh} {h h':Heap} {σ:St} (H:RelH base G h σ) (hs:h.size≤h'.size) (g:∀b,b < h.size→h'[b]?=h[b]?):RelH base G h' σ:=by
 have hc:∀{b off:Nat} {u:Value},cellG (hp h) b off=some u→cellG (hp h') b off=some u:=by intro b off u e;have:=Z02 e;unfold cellG hp at e ⊢;rw[g b this];exact e
 have ge:∀(b:Nat) (o:Obj),h[b]?=some o→h'[b]?=some o:=fun b o e=>by rw[g b (Array.getElem?_eq_some_iff.1 e).1];exact e
 have hz:=H.size;refine ⟨H.tab,Nat.le_trans hz hs,fun b hb=>by rw[g b ka];exact H.keep b hb,fun b o u hu=>hc (H.st b o u hu),?_,H.frz,?_,H.disj,H.bd,H.maps.mono (fun _ _ _ h=>h) (fun _ _ _ h=>h) (fun _ _ _ h=>h) fun b o ho hb=>ge _ _ hb⟩
 ·intro i w cs hi;obtain ⟨l,h1,h2,h3,h4,h5⟩:=H.obj i w cs hi;exact ⟨l,h1,h2,h3,h4,fun j a ha=>by obtain ⟨u,h6,h7⟩:=h5 j a ha;exact ⟨u,hc h6,h7⟩⟩
 ·intro i l hl b k hk;obtain ⟨h1,⟨c,E,fz,h2,h2'⟩,h3⟩:=H.own i l hl b k hk;exact ⟨h1,⟨c,E,fz,ge _ _ h2,h2'⟩,h3⟩
theorem Used_h {h:Heap} {bA oA bH oH cap:Nat} {l:List Bool} (c1:cellG (hp h) bA oA=some (.slice (some ⟨bH,oH,none⟩) l.length cap)) (c2:∀(k:Nat) (x:Bool),l[k]?=some x→cellG (hp h) bH (oH+k)=some (.bool x)) (hl:l.length≤1000000):
  FnC Tryz.prog 109 #[.pointer (some ⟨bA,oA,none⟩)] h fun r h'=>r=.int .i64 (usedN l)∧h.size≤h'.size∧∀b,b < h.size→h'[b]?=h[b]?:=by
 rintro w rfl
 have cc:∀{b o:Nat} {v:Value},cellG (hp w.heap) b o=some v→w.cell? ⟨b,o,none⟩=some v:=fun {b o v} e=>by
  unfold cellG hp at e;unfold World.cell?;split at e
  ·rename_i c E fz hb;simp only[hb];exact e
  ·cases e
 refine (Us.Used_in bA oA bH oH cap l hl w (cc c1) (fun k x hx=>cc (c2 k x hx))).mono ?_;rintro e w' ⟨rfl,hb⟩;exact ⟨_,rfl,⟨rfl,hb.size,hb.block⟩,hb.os,hb.tape,hb.output⟩
theorem X92 {σ:Kx.St} {ja jh:Nat} {l:List Bool} {t:List AV} (ha:σ[ja]?=some (.obj 0 (.ms jh 0 0 l.length 1::t))) (hh:σ[jh]?=some (.obj 0 (l.map aBool))) (hl:l.length≤1000000):
  FnG Tryz.prog 109 [.ref ja 0 0] σ fun a σ'=>a=aInt (usedN l)∧σ'=σ:=by
 intro base G h vs hH hL;obtain ⟨u,us,rfl,hu,hus⟩:=hL.cons_inv;obtain rfl:=hus.nil_inv
 cases hu with
 | ref _ _ _ lA e1 e2=>
 obtain ⟨lA',f1,f2,f3,f4,f5⟩:=hH.obj _ _ _ ha;rw[e1] at f1;cases f1;obtain ⟨u0,g1,g2⟩:=f5 0 _ rfl
 cases g2 with
 | ms _ _ _ _ _ lH cap k1 k2 k3 k4 k5=>
 obtain ⟨lH',m1,m2,m3,m4,m5⟩:=hH.obj _ _ _ hh;rw[k1] at m1;cases m1;refine (Used_h (h:=h) (l:=l) (bA:=lA.b) (oA:=lA.off) (bH:=lH.b) (oH:=lH.off) (cap:=cap) g1 (fun k x hx=>?_) hl).mono ?_
 ·obtain ⟨w,n1,n2⟩:=m5 k (aBool x) (by rw[List.getElem?_map,hx];rfl);cases n2;exact n1
 ·rintro r h' ⟨rfl,g1,g2⟩;exact ⟨G,_,σ,.refl _ _,relH_growB hH g1 g2,.v _,rfl,rfl⟩
end Go.Proofs.YtelibaobkcokdaaGreat.Mx
