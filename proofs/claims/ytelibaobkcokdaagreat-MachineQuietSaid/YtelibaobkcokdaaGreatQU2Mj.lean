/- The machine: what all workers share: its parts. -/
import Derived.Test.YtelibaobkcokdaaGreatQU2Mi
namespace Go.Proofs.YtelibaobkcokdaaGreat.Mx
set_option linter.unusedSectionVars false
set_option linter.unusedVariables false
set_option linter.unusedSimpArgs false
open Go Go.Kx Go.Proofs Go.Proofs.YtelibaobkcokdaaGreat
set_option maxRecDepth 8000
def aPr (q:Pm):List AV:=[.v (.int .i64 q.W),.v (.int .i64 q.T),.v (.int .i64 q.F),.v (.int .i64 q.D),.v (.int .i64 q.O),.v (.bool q.fold),.v (.bool q.lazy)]
section
variable (q:Pm) (pl:Pl) (s:Cs)
theorem co0:(aCore q pl s)[0]?=some (.sl q.fs.length (q.fs.map aIxs) pl.ft):=rfl
theorem co8:(aCore q pl s)[8]?=some (.ref (pl.p .sw) 0 0):=rfl
theorem co9:(aCore q pl s)[9]?=some (.ref (pl.p .sd) 0 0):=rfl
theorem co10:(aCore q pl s)[10]?=some (.ref (pl.p .t) 0 0):=rfl
theorem co11:(aCore q pl s)[11]?=some (.ref (pl.p .so) 0 0):=rfl
theorem co12:(aCore q pl s)[12]?=some (.ref (pl.p .lo) 0 0):=rfl
theorem coc7:cellsA (some 7) ((aCore q pl s).drop 1)=some (.agg (aPr q)):=rfl
theorem J60:(aCore q pl s).length=23:=rfl
theorem co13:(aCore q pl s)[13]?=some (.v (.int .i64 s.steps)):=rfl
theorem cos13 (x:Int):(aCore q pl s).set 13 (.v (.int .i64 x))=aCore q pl { s with steps:=x }:=rfl
theorem co14:(aCore q pl s)[14]?=some (.v (.int .i64 s.probes)):=rfl
theorem cos14 (x:Int):(aCore q pl s).set 14 (.v (.int .i64 x))=aCore q pl { s with probes:=x }:=rfl
theorem co15:(aCore q pl s)[15]?=some (.v (.int .i64 s.steals)):=rfl
theorem cos15 (x:Int):(aCore q pl s).set 15 (.v (.int .i64 x))=aCore q pl { s with steals:=x }:=rfl
theorem co16:(aCore q pl s)[16]?=some (.v (.int .i64 s.parks)):=rfl
theorem cos16 (x:Int):(aCore q pl s).set 16 (.v (.int .i64 x))=aCore q pl { s with parks:=x }:=rfl
theorem co17:(aCore q pl s)[17]?=some (.v (.int .i64 s.naps)):=rfl
theorem cos17 (x:Int):(aCore q pl s).set 17 (.v (.int .i64 x))=aCore q pl { s with naps:=x }:=rfl
theorem co18:(aCore q pl s)[18]?=some (.v (.int .i64 s.folds)):=rfl
theorem cos18 (x:Int):(aCore q pl s).set 18 (.v (.int .i64 x))=aCore q pl { s with folds:=x }:=rfl
theorem co20:(aCore q pl s)[20]?=some (.v (.int .i64 s.serial)):=rfl
theorem cos20 (x:Int):(aCore q pl s).set 20 (.v (.int .i64 x))=aCore q pl { s with serial:=x }:=rfl
theorem co21:(aCore q pl s)[21]?=some (.v (.int .i64 s.status)):=rfl
theorem cos21 (x:Int):(aCore q pl s).set 21 (.v (.int .i64 x))=aCore q pl { s with status:=x }:=rfl
theorem co22:(aCore q pl s)[22]?=some (.v (.int .i64 s.why)):=rfl
theorem cos22 (x:Int):(aCore q pl s).set 22 (.v (.int .i64 x))=aCore q pl { s with why:=x }:=rfl
theorem pr0:(aPr q)[0]?=some (.v (.int .i64 q.W)):=rfl
theorem pr1:(aPr q)[1]?=some (.v (.int .i64 q.T)):=rfl
theorem pr2:(aPr q)[2]?=some (.v (.int .i64 q.F)):=rfl
theorem pr3:(aPr q)[3]?=some (.v (.int .i64 q.D)):=rfl
theorem pr4:(aPr q)[4]?=some (.v (.int .i64 q.O)):=rfl
theorem pr5:(aPr q)[5]?=some (.v (.bool q.fold)):=rfl
theorem pr6:(aPr q)[6]?=some (.v (.bool q.lazy)):=rfl
theorem Q31:(AV.agg (aPr q)).cells=aPr q:=rfl
theorem pr_ex:(AV.agg (aPr q)).exact=true:=rfl
theorem prc7:cellsA (some 7) (aPr q)=some (.agg (aPr q)):=rfl
theorem J03:AV.pureL (aPr q)=true:=by simp[aPr,AV.pureL,AV.pure]
theorem tbc4:cellsA (some 4) (aTb q pl s)=some (.agg (aPl q)):=rfl
theorem tb4:(aTb q pl s)[4]?=some (.ref (pl.p .sw) 0 0):=rfl
theorem tb5:(aTb q pl s)[5]?=some (.ref (pl.p .ar) 0 0):=rfl
theorem tb6:(aTb q pl s)[6]?=some (.ms (pl.p .fl) 0 0 s.fr.length 19):=rfl
theorem exms {i v o n:Nat}:(AV.ms i v o n 19).exact=true:=rfl
end
attribute [push_cast] Q31 pr_ex prc7 tbc4 tb4 tb5 tb6 exms co0 co8 co9 co10 co11 co12 coc7 J60 co13 cos13 co14 cos14 co15 cos15 co16 cos16 co17 cos17 co18 cos18 co20 cos20 co21 cos21 co22 cos22 pr0 pr1 pr2 pr3 pr4 pr5 pr6
theorem Z97 (q:Pm):FnP Tryz.prog 80 [.agg (aPr q)] fun a=>a=.agg (aPl q):=by
 refine Qg K_core_plan mixed rfl (by simp[AV.pureL,AV.pure,J03]) ?_
 simp only[JX]
 have hb:fillA [AV.v (.int .i64 0),AV.v (.int .i64 0),AV.v (.int .i64 0),AV.v (.int .i64 0)] [(0,1),(1,1),(2,1),(3,1)] [.v (.int .i64 q.W),.v (.int .i64 q.F),.v (.int .i64 q.T),.v (.int .i64 q.D)]=some (aPl q):=by simp[fillA,AV.cells,Value.cells,setAtA,aPl]
 have hs:setAtA [AV.v (.int .i64 0),AV.v (.int .i64 0),AV.v (.int .i64 0),AV.v (.int .i64 0)] 0 (aPl q)=aPl q:=rfl
 push_cast (maxSteps:=999999) -implicitDefEqProofs (disch:=omega)
 refine Q3 ?_
 push_cast (maxSteps:=999999) -implicitDefEqProofs (disch:=omega)
 refine Qb ?_
 push_cast (maxSteps:=999999) -implicitDefEqProofs (disch:=omega)[hb]
 refine Q8 (i:=0) (cs:=[AV.v (.int .i64 0),AV.v (.int .i64 0),AV.v (.int .i64 0),AV.v (.int .i64 0)]) (l:=aPl q) rfl rfl rfl (by simp) ?_
 rw[hs]
 push_cast (maxSteps:=999999) -implicitDefEqProofs (disch:=omega)[cells4]
 exact ⟨[],rfl,rfl⟩
section
variable {q:Pm} {pl:Pl} {σ:Kx.St} {L:List Wk} {s:Cs} (h:MM q pl σ L s)
include h
theorem Y02:FnG Tryz.prog 90 [.ref (pl.p .c) 0 0] σ fun a σ'=>a=.agg (aPr q)∧σ'=σ:=by
 refine FnG.drop0 (fun a h=>by subst h;rfl) ?_
 refine Q2 YQ mixed rfl ?_
 simp only[Z35]
 have hs:setAtA [AV.v (.int .i64 0),AV.v (.int .i64 0),AV.v (.int .i64 0),AV.v (.int .i64 0),AV.v (.int .i64 0),AV.v (.bool false),AV.v (.bool false)] 0 (aPr q)=aPr q:=rfl
 have hc:=Qj (τ:=[Res.obj 0 [AV.v (.int .i64 0),AV.v (.int .i64 0),AV.v (.int .i64 0),AV.v (.int .i64 0),AV.v (.int .i64 0),AV.v (.bool false),AV.v (.bool false)]]) h.c
 push_cast (maxSteps:=999999) -implicitDefEqProofs (disch:=omega)
 refine Qb ?_
 push_cast (maxSteps:=999999) -implicitDefEqProofs (disch:=omega)[hc]
 refine Q8 (cs:=[AV.v (.int .i64 0),AV.v (.int .i64 0),AV.v (.int .i64 0),AV.v (.int .i64 0),AV.v (.int .i64 0),AV.v (.bool false),AV.v (.bool false)]) (l:=aPr q) rfl rfl (Qc _ _) (by simp) ?_
 rw[hs,Qq]
 push_cast (maxSteps:=999999) -implicitDefEqProofs (disch:=omega)[Qc]
 exact ⟨_,rfl⟩
theorem core_Plan_a:FnG Tryz.prog 66 [.ref (pl.p .c) 0 0] σ fun a σ'=>a=.agg (aPl q)∧σ'=σ:=by
 refine FnG.drop0 (fun a h=>by subst h;rfl) ?_
 refine Q2 Y92 mixed rfl ?_
 simp only[Xr]
 have hs:setAtA [AV.v (.int .i64 0),AV.v (.int .i64 0),AV.v (.int .i64 0),AV.v (.int .i64 0)] 0 (aPl q)=aPl q:=rfl
 push_cast (maxSteps:=999999) -implicitDefEqProofs (disch:=omega)
 refine Qb ?_
 push_cast (maxSteps:=999999) -implicitDefEqProofs (disch:=omega)
 refine Q0 (Y02 (h.app _)) ?_
 rintro a σ' ⟨rfl,rfl⟩
 push_cast (maxSteps:=999999) -implicitDefEqProofs (disch:=omega)
 refine Q1 (Z97 q) ?_
 rintro a rfl
 push_cast (maxSteps:=999999) -implicitDefEqProofs (disch:=omega)
 refine Q8 (cs:=[AV.v (.int .i64 0),AV.v (.int .i64 0),AV.v (.int .i64 0),AV.v (.int .i64 0)]) (l:=aPl q) rfl rfl (Qc _ _) (by simp) ?_
 rw[hs,Qq]
 push_cast (maxSteps:=999999) -implicitDefEqProofs (disch:=omega)[Qc,cells4]
 exact ⟨_,rfl⟩
theorem core_Words_a:FnG Tryz.prog 67 [.ref (pl.p .c) 0 0] σ fun a σ'=>a=.ref (pl.p .sw) 0 0∧σ'=σ:=by
 refine Q2 Y34 mixed rfl ?_
 simp only[Z76]
 have hc:=h.c
 push_cast (maxSteps:=999999) -implicitDefEqProofs (disch:=omega)[hc,aInt]
 exact trivial
theorem Q04:FnG Tryz.prog 61 [.ref (pl.p .c) 0 0] σ fun a σ'=>a=.ref (pl.p .sd) 0 0∧σ'=σ:=by
 refine Q2 Y91 mixed rfl ?_
 simp only[Xq]
 have hc:=h.c
 push_cast (maxSteps:=999999) -implicitDefEqProofs (disch:=omega)[hc,aInt]
 exact trivial
theorem ZD:FnG Tryz.prog 56 [.ref (pl.p .c) 0 0] σ fun a σ'=>a=.ref (pl.p .t) 0 0∧σ'=σ:=by
 refine Q2 YL mixed rfl ?_
 simp only[Z31]
 have hc:=h.c
 push_cast (maxSteps:=999999) -implicitDefEqProofs (disch:=omega)[hc,aInt]
 exact trivial
theorem Y37:FnG Tryz.prog 47 [.ref (pl.p .c) 0 0] σ fun a σ'=>a=.ref (pl.p .so) 0 0∧σ'=σ:=by
 refine Q2 JU mixed rfl ?_
 simp only[X00]
 have hc:=h.c
 push_cast (maxSteps:=999999) -implicitDefEqProofs (disch:=omega)[hc,aInt]
 exact trivial
theorem J61:FnG Tryz.prog 58 [.ref (pl.p .c) 0 0] σ fun a σ'=>a=.ref (pl.p .lo) 0 0∧σ'=σ:=by
 refine Q2 JW mixed rfl ?_
 simp only[X02]
 have hc:=h.c
 push_cast (maxSteps:=999999) -implicitDefEqProofs (disch:=omega)[hc,aInt]
 exact trivial
theorem QR:FnG Tryz.prog 50 [.ref (pl.p .c) 0 0] σ fun a σ'=>a=.ref (pl.p .c) 0 13∧σ'=σ:=by
 refine Q2 Y33 mixed rfl ?_
 simp only[Z75]
 have hc:=h.c
 push_cast (maxSteps:=999999) -implicitDefEqProofs (disch:=omega)[hc,aInt]
 exact trivial
theorem Z98:FnG Tryz.prog 46 [.ref (pl.p .c) 0 0] σ fun a σ'=>a=.tup [aInt s.status,aInt s.why]∧σ'=σ:=by
 refine Q2 YK mixed rfl ?_
 simp only[Z30]
 have hc:=h.c
 push_cast (maxSteps:=999999) -implicitDefEqProofs (disch:=omega)[hc,aInt]
 exact trivial
theorem core_Stop_a (st why:Int):FnG Tryz.prog 146 [.ref (pl.p .c) 0 0,.v (.int .i64 st),.v (.int .i64 why)] σ fun _ σ'=>MM q pl σ' L (s.stop st why)∧Ext pl pl σ σ':=by
 refine Q2 Y94 mixed rfl ?_
 simp only[Xt]
 have hc:=h.c
 have hlt:=Qe hc
 by_cases c:s.status=0
 ·have e:s.stop st why={ s with status:=st,why:=why }:=if_pos c
  rw[e]
  push_cast (maxSteps:=999999) -implicitDefEqProofs (disch:=omega)[hc,c]
  refine Q6 rfl rfl hc (by simp[J60]) ?_
  push_cast (maxSteps:=999999) -implicitDefEqProofs (disch:=omega)
  refine Q6 rfl rfl (Qa hc) (by simp[J60]) ?_
  push_cast (maxSteps:=999999) -implicitDefEqProofs (disch:=omega)[List.set_set]
  exact ⟨h.core (s':={ s with status:=st,why:=why }) rfl,Ext.set ..⟩
 ·have e:s.stop st why=s:=if_neg c
  rw[e]
  push_cast (maxSteps:=999999) -implicitDefEqProofs (disch:=omega)[hc,c]
  exact ⟨h,.refl _ _⟩
theorem G6:FnG Tryz.prog 276 [.ref (pl.p .c) 0 0] σ fun a σ'=>a=aInt (w64 (s.serial+1))∧MM q pl σ' L { s with serial:=w64 (s.serial+1) }∧Ext pl pl σ σ':=by
 refine Q2 Y00 mixed rfl ?_
 simp only[Z44]
 have hc:=h.c
 have hlt:=Qe hc
 push_cast (maxSteps:=999999) -implicitDefEqProofs (disch:=omega)[hc]
 refine Q6 rfl rfl hc (by simp[J60]) ?_
 push_cast (maxSteps:=999999) -implicitDefEqProofs (disch:=omega)[aInt]
 exact ⟨h.core (s':={ s with serial:=w64 (s.serial+1) }) rfl,Ext.set ..⟩
theorem core_Code_a (fn pc:Int):FnG Tryz.prog 151 [.ref (pl.p .c) 0 0,.v (.int .i64 fn),.v (.int .i64 pc)] σ fun a σ'=>a=.agg (aIx (q.code fn pc))∧σ'=σ:=by
 refine FnG.drop0 (fun a h=>by subst h;rfl) ?_
 refine Q2 Y95 mixed rfl ?_
 simp only[Xu]
 have hc:=Qj (τ:=[Res.obj 0 [AV.v (.int .i64 0),AV.v (.int .i64 0),AV.v (.int .i64 0),AV.v (.int .i64 0)]]) h.c
 have ⟨hfs,hfl⟩:=h.sd.fs
 have z4:fillA [AV.v (.int .i64 0),AV.v (.int .i64 0),AV.v (.int .i64 0),AV.v (.int .i64 0)] [] []=some [AV.v (.int .i64 0),AV.v (.int .i64 0),AV.v (.int .i64 0),AV.v (.int .i64 0)]:=rfl
 have hs:∀x,setAtA [AV.v (.int .i64 0),AV.v (.int .i64 0),AV.v (.int .i64 0),AV.v (.int .i64 0)] 0 (aIx x)=aIx x:=fun x=>rfl
 have z4':setAtA [AV.v (.int .i64 0),AV.v (.int .i64 0),AV.v (.int .i64 0),AV.v (.int .i64 0)] 0 [AV.v (.int .i64 0),AV.v (.int .i64 0),AV.v (.int .i64 0),AV.v (.int .i64 0)]=aIx ⟨0,0,0,0⟩:=rfl
 have cx:∀x,cellsA (some 4) (aIx x)=some (.agg (aIx x)):=fun x=>rfl
 by_cases c1:fn < 0
 ·have e:q.code fn pc=⟨0,0,0,0⟩:=if_pos (.inl c1)
  rw[e]
  push_cast (maxSteps:=999999) -implicitDefEqProofs (disch:=omega)
  refine Qb ?_
  push_cast (maxSteps:=999999) -implicitDefEqProofs (disch:=omega)[c1,z4]
  refine Q8 (cs:=[AV.v (.int .i64 0),AV.v (.int .i64 0),AV.v (.int .i64 0),AV.v (.int .i64 0)]) rfl rfl (Qc _ _) (by simp) ?_
  rw[z4',Qq]
  push_cast (maxSteps:=999999) -implicitDefEqProofs (disch:=omega)[Qc,cx]
  exact ⟨_,rfl⟩
 by_cases c2:(q.fs.length:Int)≤fn
 ·have e:q.code fn pc=⟨0,0,0,0⟩:=by
   unfold Pm.code
   have:q.fs.getD fn.toNat []=[]:=by rw[List.getD_eq_getElem?_getD,List.getElem?_eq_none (by omega)];rfl
   rw[this];split<;>simp
  rw[e]
  push_cast (maxSteps:=999999) -implicitDefEqProofs (disch:=omega)
  refine Qb ?_
  push_cast (maxSteps:=999999) -implicitDefEqProofs (disch:=omega)[c1,c2,hc,z4]
  refine Q8 (cs:=[AV.v (.int .i64 0),AV.v (.int .i64 0),AV.v (.int .i64 0),AV.v (.int .i64 0)]) rfl rfl (Qc _ _) (by simp) ?_
  rw[z4',Qq]
  push_cast (maxSteps:=999999) -implicitDefEqProofs (disch:=omega)[Qc,cx]
  exact ⟨_,rfl⟩
 by_cases c3:pc < 0
 ·have e:q.code fn pc=⟨0,0,0,0⟩:=if_pos (.inr c3)
  rw[e]
  push_cast (maxSteps:=999999) -implicitDefEqProofs (disch:=omega)
  refine Qb ?_
  push_cast (maxSteps:=999999) -implicitDefEqProofs (disch:=omega)[c1,c2,c3,hc,z4]
  refine Q8 (cs:=[AV.v (.int .i64 0),AV.v (.int .i64 0),AV.v (.int .i64 0),AV.v (.int .i64 0)]) rfl rfl (Qc _ _) (by simp) ?_
  rw[z4',Qq]
  push_cast (maxSteps:=999999) -implicitDefEqProofs (disch:=omega)[Qc,cx]
  exact ⟨_,rfl⟩
 obtain ⟨l,hl⟩:=Q09 (l:=q.fs) (k:=fn.toNat) (by omega)
 have hll:=hfl l (List.mem_of_getElem? hl)
 have hgl:(q.fs.map aIxs)[fn.toNat]?=some (aIxs l):=by rw[List.getElem?_map,hl];rfl
 have e0:q.code fn pc=l.getD pc.toNat ⟨0,0,0,0⟩:=by
  have e1:q.fs.getD fn.toNat []=l:=by rw[List.getD_eq_getElem?_getD,hl];rfl
  unfold Pm.code
  rw[if_neg (by omega),e1]
 by_cases c4:(l.length:Int)≤pc
 ·have e:q.code fn pc=⟨0,0,0,0⟩:=by rw[e0,List.getD_eq_getElem?_getD,List.getElem?_eq_none (by omega)];rfl
  rw[e]
  push_cast (maxSteps:=999999) -implicitDefEqProofs (disch:=omega)
  refine Qb ?_
  push_cast (maxSteps:=999999) -implicitDefEqProofs (disch:=omega)[c1,c2,c3,c4,hc,z4,hgl,aIxs,aSlN]
  refine Q8 (cs:=[AV.v (.int .i64 0),AV.v (.int .i64 0),AV.v (.int .i64 0),AV.v (.int .i64 0)]) rfl rfl (Qc _ _) (by simp) ?_
  rw[z4',Qq]
  push_cast (maxSteps:=999999) -implicitDefEqProofs (disch:=omega)[Qc,cx]
  exact ⟨_,rfl⟩
 ·obtain ⟨x,hx⟩:=Q09 (l:=l) (k:=pc.toNat) (by omega)
  have e:q.code fn pc=x:=by rw[e0,List.getD_eq_getElem?_getD,hx];rfl
  rw[e]
  have hd:=QH (f:=aIx) (n:=4) (fun _=>rfl) hx
  have cx2:∀t,cellsA (some 4) (aIx x++t)=some (.agg (aIx x)):=fun t=>by rw[Z86 _ _ (by simp[aIx])];rfl
  push_cast (maxSteps:=999999) -implicitDefEqProofs (disch:=omega)
  refine Qb ?_
  push_cast (maxSteps:=999999) -implicitDefEqProofs (disch:=omega)[c1,c2,c3,c4,hc,z4,hgl,aIxs,aSlN,hd,cx2]
  refine Q8 (cs:=[AV.v (.int .i64 0),AV.v (.int .i64 0),AV.v (.int .i64 0),AV.v (.int .i64 0)]) (l:=aIx x) rfl rfl (Qc _ _) (by simp[aIx]) ?_
  rw[hs,Qq]
  push_cast (maxSteps:=999999) -implicitDefEqProofs (disch:=omega)[Qc,cx]
  exact ⟨_,rfl⟩
omit h in
theorem ask_len (d:List Int) (e:Ef):(askD d e).2.2.length=d.length:=by
 unfold askD
 repeat' split
 all_goals simp
omit h in
theorem ask_k (d:List Int) (e:Ef):(e.k=1→askD d e=askD d ⟨1,e.at_,0,0,0⟩∧(askD d e).2.2=d)∧(e.k=2→askD d e=askD d ⟨2,e.at_,e.v,0,0⟩∧(askD d e).1=0)∧(e.k=3→askD d e=askD d ⟨3,e.at_,e.v,0,0⟩)∧(e.k=4→askD d e=askD d ⟨4,e.at_,e.v,e.o,0⟩):=by
 refine ⟨fun h=>⟨?_,?_⟩,fun h=>⟨?_,?_⟩,fun h=>?_,fun h=>?_⟩<;>(unfold askD;simp only[h];try rfl)
 all_goals (split<;>simp)
omit h in
theorem ef_i (e:Ef):(aEf e)[0]?=some (.v (.int .i64 e.k))∧(aEf e)[1]?=some (.v (.int .i64 e.at_))∧(aEf e)[2]?=some (.v (.int .i64 e.v))∧(aEf e)[3]?=some (.v (.int .i64 e.o)):=⟨rfl,rfl,rfl,rfl⟩
theorem core_Ask_a (e:Ef) (hk:1≤e.k∧e.k≤4):FnG Tryz.prog 156 [.ref (pl.p .c) 0 0,.agg (aEf e)] σ fun a σ'=>a=.tup [aInt (askD s.data e).1,aBool (askD s.data e).2.1]∧MM q pl σ' L { s with data:=(askD s.data e).2.2 }∧Ext pl pl σ σ':=by
 refine Q2 J00 mixed rfl ?_
 simp only[X03]
 obtain ⟨g0,g1,g2,g3⟩:=ef_i e
 have hac:(AV.agg (aEf e)).cells=aEf e:=rfl
 obtain ⟨a1,a2,a3,a4⟩:=ask_k s.data e
 have hD:=h.datas
 have hlen:=ask_len s.data e
 have fin:=h.setD hlen
 push_cast (maxSteps:=999999) -implicitDefEqProofs (disch:=omega)
 refine Q3 ?_
 have hcs:e.k=1∨e.k=2∨e.k=3∨e.k=4:=by omega
 rcases hcs with hk|hk|hk|hk
 ·obtain ⟨e1,e2⟩:=a1 hk
  push_cast (maxSteps:=999999) -implicitDefEqProofs (disch:=omega)[hac,g0,g1,g2,g3,hk]
  refine Q0 (Q04 h) ?_
  rintro a σ' ⟨rfl,rfl⟩
  push_cast (maxSteps:=999999) -implicitDefEqProofs (disch:=omega)[hac,g0,g1,g2,g3,hk]
  refine Q0 (st_Load_x hD.st hD.wd e.at_) ?_
  rintro a σ' ⟨rfl,rfl⟩
  rw[←e1]
  push_cast (maxSteps:=999999) -implicitDefEqProofs (disch:=omega)[aInt,aBool]
  refine ⟨?_,.refl _ _⟩
  rw[e2];exact h
 ·obtain ⟨e1,e2⟩:=a2 hk
  push_cast (maxSteps:=999999) -implicitDefEqProofs (disch:=omega)[hac,g0,g1,g2,g3,hk]
  refine Q0 (Q04 h) ?_
  rintro a σ' ⟨rfl,rfl⟩
  push_cast (maxSteps:=999999) -implicitDefEqProofs (disch:=omega)[hac,g0,g1,g2,g3,hk]
  refine Q0 (Y31 hD.st hD.wd e.at_ e.v) ?_
  rintro a σ' ⟨rfl,rfl⟩
  rw[←e1]
  push_cast (maxSteps:=999999) -implicitDefEqProofs (disch:=omega)[aInt,aBool,e2]
  exact ⟨fin,Ext.set ..⟩
 ·have e1:=a3 hk
  push_cast (maxSteps:=999999) -implicitDefEqProofs (disch:=omega)[hac,g0,g1,g2,g3,hk]
  refine Q0 (Q04 h) ?_
  rintro a σ' ⟨rfl,rfl⟩
  push_cast (maxSteps:=999999) -implicitDefEqProofs (disch:=omega)[hac,g0,g1,g2,g3,hk]
  refine Q0 (st_Add_x hD.st hD.wd e.at_ e.v) ?_
  rintro a σ' ⟨rfl,rfl⟩
  rw[←e1]
  push_cast (maxSteps:=999999) -implicitDefEqProofs (disch:=omega)[aInt,aBool]
  exact ⟨fin,Ext.set ..⟩
 ·have e1:=a4 hk
  push_cast (maxSteps:=999999) -implicitDefEqProofs (disch:=omega)[hac,g0,g1,g2,g3,hk]
  refine Q0 (Q04 h) ?_
  rintro a σ' ⟨rfl,rfl⟩
  push_cast (maxSteps:=999999) -implicitDefEqProofs (disch:=omega)[hac,g0,g1,g2,g3,hk]
  refine Q0 (st_Swap_x hD.st hD.wd e.at_ e.v e.o) ?_
  rintro a σ' ⟨rfl,rfl⟩
  rw[←e1]
  push_cast (maxSteps:=999999) -implicitDefEqProofs (disch:=omega)[aInt,aBool]
  exact ⟨fin,Ext.set ..⟩
end
end Go.Proofs.YtelibaobkcokdaaGreat.Mx
