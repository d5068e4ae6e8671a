/- The machine: what all workers share: its parts. -/
import Derived.Test.YtelibaobkcokdaaGreatTH2G17
import Derived.Test.YtelibaobkcokdaaGreatProg
import Derived.KernelRfl
namespace Go.Proofs.YtelibaobkcokdaaGreat.Mx
set_option linter.unusedSectionVars false
set_option linter.unusedVariables false
set_option linter.unusedSimpArgs false
open Go Go.Kx Go.Proofs Go.Proofs.YtelibaobkcokdaaGreat
set_option maxRecDepth 8000
def aPr (q:Pm):List AV:=[.v (.int .i64 q.W),.v (.int .i64 q.T),.v (.int .i64 q.F),.v (.int .i64 q.D),.v (.int .i64 q.O),.v (.bool q.fold),.v (.bool q.lazy)]
section
variable (q:Pm) (pl:Pl) (s:Cs)
theorem co0:(aCore q pl s)[0]?=some (.sl q.fs.length (q.fs.map aIxs) pl.ft):=(rfl)
theorem co8:(aCore q pl s)[8]?=some (.ref (pl.p .sw) 0 0):=(rfl)
theorem co9:(aCore q pl s)[9]?=some (.ref (pl.p .sd) 0 0):=(rfl)
theorem co10:(aCore q pl s)[10]?=some (.ref (pl.p .t) 0 0):=(rfl)
theorem co11:(aCore q pl s)[11]?=some (.ref (pl.p .so) 0 0):=(rfl)
theorem co12:(aCore q pl s)[12]?=some (.ref (pl.p .lo) 0 0):=(rfl)
theorem coc7:cellsA (some 7) ((aCore q pl s).drop 1)=some (.agg (aPr q)):=(rfl)
theorem Y49:(aCore q pl s).length=23:=(rfl)
theorem co13:(aCore q pl s)[13]?=some (.v (.int .i64 s.steps)):=(rfl)
theorem cos13 (x:Int):(aCore q pl s).set 13 (.v (.int .i64 x))=aCore q pl { s with steps:=x }:=(rfl)
theorem co14:(aCore q pl s)[14]?=some (.v (.int .i64 s.probes)):=(rfl)
theorem cos14 (x:Int):(aCore q pl s).set 14 (.v (.int .i64 x))=aCore q pl { s with probes:=x }:=(rfl)
theorem co15:(aCore q pl s)[15]?=some (.v (.int .i64 s.steals)):=(rfl)
theorem cos15 (x:Int):(aCore q pl s).set 15 (.v (.int .i64 x))=aCore q pl { s with steals:=x }:=(rfl)
theorem co16:(aCore q pl s)[16]?=some (.v (.int .i64 s.parks)):=(rfl)
theorem cos16 (x:Int):(aCore q pl s).set 16 (.v (.int .i64 x))=aCore q pl { s with parks:=x }:=(rfl)
theorem co17:(aCore q pl s)[17]?=some (.v (.int .i64 s.naps)):=(rfl)
theorem cos17 (x:Int):(aCore q pl s).set 17 (.v (.int .i64 x))=aCore q pl { s with naps:=x }:=(rfl)
theorem co18:(aCore q pl s)[18]?=some (.v (.int .i64 s.folds)):=(rfl)
theorem cos18 (x:Int):(aCore q pl s).set 18 (.v (.int .i64 x))=aCore q pl { s with folds:=x }:=(rfl)
theorem co20:(aCore q pl s)[20]?=some (.v (.int .i64 s.serial)):=(rfl)
theorem cos20 (x:Int):(aCore q pl s).set 20 (.v (.int .i64 x))=aCore q pl { s with serial:=x }:=(rfl)
theorem co21:(aCore q pl s)[21]?=some (.v (.int .i64 s.status)):=(rfl)
theorem cos21 (x:Int):(aCore q pl s).set 21 (.v (.int .i64 x))=aCore q pl { s with status:=x }:=(rfl)
theorem co22:(aCore q pl s)[22]?=some (.v (.int .i64 s.why)):=(rfl)
theorem cos22 (x:Int):(aCore q pl s).set 22 (.v (.int .i64 x))=aCore q pl { s with why:=x }:=(rfl)
theorem pr0:(aPr q)[0]?=some (.v (.int .i64 q.W)):=(rfl)
theorem pr1:(aPr q)[1]?=some (.v (.int .i64 q.T)):=(rfl)
theorem pr2:(aPr q)[2]?=some (.v (.int .i64 q.F)):=(rfl)
theorem pr3:(aPr q)[3]?=some (.v (.int .i64 q.D)):=(rfl)
theorem pr4:(aPr q)[4]?=some (.v (.int .i64 q.O)):=(rfl)
theorem pr5:(aPr q)[5]?=some (.v (.bool q.fold)):=(rfl)
theorem pr6:(aPr q)[6]?=some (.v (.bool q.lazy)):=(rfl)
theorem Q39:(AV.agg (aPr q)).cells=aPr q:=(rfl)
theorem pr_ex:(AV.agg (aPr q)).exact=true:=(rfl)
theorem prc7:cellsA (some 7) (aPr q)=some (.agg (aPr q)):=(rfl)
theorem YY:AV.pureL (aPr q)=true:=by simp[aPr,AV.pureL,AV.pure]
theorem tbc4:cellsA (some 4) (aTb q pl s)=some (.agg (aPl q)):=(rfl)
theorem tb4:(aTb q pl s)[4]?=some (.ref (pl.p .sw) 0 0):=(rfl)
theorem tb5:(aTb q pl s)[5]?=some (.ref (pl.p .ar) 0 0):=(rfl)
theorem tb6:(aTb q pl s)[6]?=some (.ms (pl.p .fl) 0 0 s.fr.length 19):=(rfl)
theorem exms {i v o n:Nat}:(AV.ms i v o n 19).exact=true:=(rfl)
end
attribute [push_cast] Q39 pr_ex prc7 tbc4 tb4 tb5 tb6 exms co0 co8 co9 co10 co11 co12 coc7 Y49 co13 cos13 co14 cos14 co15 cos15 co16 cos16 co17 cos17 co18 cos18 co20 cos20 co21 cos21 co22 cos22 pr0 pr1 pr2 pr3 pr4 pr5 pr6
theorem Z85 (q:Pm):FnP Tryz.prog 80 [.agg (aPr q)] fun a=>a=.agg (aPl q):=by
 refine Qj YT.2 mixed rfl (by simp[AV.pureL,AV.pure,YY]) ?_;simp only[YT,qH];have hb:fillA [AV.v (.int .i64 0),AV.v (.int .i64 0),AV.v (.int .i64 0),AV.v (.int .i64 0)] [(0,1),(1,1),(2,1),(3,1)] [.v (.int .i64 q.W),.v (.int .i64 q.F),.v (.int .i64 q.T),.v (.int .i64 q.D)]=some (aPl q):=by simp[fillA,AV.cells,Value.cells,setAtA,aPl]
 have hs:setAtA [AV.v (.int .i64 0),AV.v (.int .i64 0),AV.v (.int .i64 0),AV.v (.int .i64 0)] 0 (aPl q)=aPl q:=rfl;push_cast;refine Q6 ?_;push_cast;refine Qm ?_;push_cast[hb];refine Qd (i:=0) (cs:=[AV.v (.int .i64 0),AV.v (.int .i64 0),AV.v (.int .i64 0),AV.v (.int .i64 0)]) (l:=aPl q) rfl rfl rfl ke ?_;rw[hs];push_cast[cells4];exact ⟨[],rfl,rfl⟩
section
variable {q:Pm} {pl:Pl} {σ:Kx.St} {L:List Wk} {s:Cs} (h:MM q pl σ L s)
include h
theorem X32:FnG Tryz.prog 90 [.ref (pl.p .c) 0 0] σ fun a σ'=>a=.agg (aPr q)∧σ'=σ:=by refine FnG.drop0 (fun a h=>by subst h;rfl) ?_;refine Q3 Z31.2 mixed rfl ?_;simp only[Z31,qH];have hs:setAtA [AV.v (.int .i64 0),AV.v (.int .i64 0),AV.v (.int .i64 0),AV.v (.int .i64 0),AV.v (.int .i64 0),AV.v (.bool false),AV.v (.bool false)] 0 (aPr q)=aPr q:=rfl;have hc:=Qn (τ:=[Res.obj 0 [AV.v (.int .i64 0),AV.v (.int .i64 0),AV.v (.int .i64 0),AV.v (.int .i64 0),AV.v (.int .i64 0),AV.v (.bool false),AV.v (.bool false)]]) h.c;push_cast;refine Qm ?_;push_cast[hc];refine Qd (cs:=[AV.v (.int .i64 0),AV.v (.int .i64 0),AV.v (.int .i64 0),AV.v (.int .i64 0),AV.v (.int .i64 0),AV.v (.bool false),AV.v (.bool false)]) (l:=aPr q) rfl rfl (Qe _ _) ke ?_;rw[hs,Qu];push_cast[Qe];exact ⟨_,rfl⟩
theorem core_Plan_a:FnG Tryz.prog 66 [.ref (pl.p .c) 0 0] σ fun a σ'=>a=.agg (aPl q)∧σ'=σ:=by refine FnG.drop0 (fun a h=>by subst h;rfl) ?_;refine Q3 Xb.2 mixed rfl ?_;simp only[Xb,qH];have hs:setAtA [AV.v (.int .i64 0),AV.v (.int .i64 0),AV.v (.int .i64 0),AV.v (.int .i64 0)] 0 (aPl q)=aPl q:=rfl;push_cast;refine Qm ?_;push_cast;refine Q4 (X32 (h.app _)) ?_;push_cast;refine Q5 (Z85 q) ?_;push_cast;refine Qd (cs:=[AV.v (.int .i64 0),AV.v (.int .i64 0),AV.v (.int .i64 0),AV.v (.int .i64 0)]) (l:=aPl q) rfl rfl (Qe _ _) ke ?_;rw[hs,Qu];push_cast[Qe,cells4];exact ⟨_,rfl⟩
theorem core_Words_a:FnG Tryz.prog 67 [.ref (pl.p .c) 0 0] σ fun a σ'=>a=.ref (pl.p .sw) 0 0∧σ'=σ:=by refine Q3 Z72.2 mixed rfl ?_;simp only[Z72,qH];have hc:=h.c;push_cast[hc,aInt];exact trivial
theorem Q17:FnG Tryz.prog 61 [.ref (pl.p .c) 0 0] σ fun a σ'=>a=.ref (pl.p .sd) 0 0∧σ'=σ:=by refine Q3 Xa.2 mixed rfl ?_;simp only[Xa,qH];have hc:=h.c;push_cast[hc,aInt];exact trivial
theorem Zz:FnG Tryz.prog 56 [.ref (pl.p .c) 0 0] σ fun a σ'=>a=.ref (pl.p .t) 0 0∧σ'=σ:=by refine Q3 Z27.2 mixed rfl ?_;simp only[Z27,qH];have hc:=h.c;push_cast[hc,aInt];exact trivial
theorem X51:FnG Tryz.prog 47 [.ref (pl.p .c) 0 0] σ fun a σ'=>a=.ref (pl.p .so) 0 0∧σ'=σ:=by refine Q3 Xv.2 mixed rfl ?_;simp only[Xv,qH];have hc:=h.c;push_cast[hc,aInt];exact trivial
theorem Y50:FnG Tryz.prog 58 [.ref (pl.p .c) 0 0] σ fun a σ'=>a=.ref (pl.p .lo) 0 0∧σ'=σ:=by refine Q3 Xx.2 mixed rfl ?_;simp only[Xx,qH];have hc:=h.c;push_cast[hc,aInt];exact trivial
theorem Q08:FnG Tryz.prog 50 [.ref (pl.p .c) 0 0] σ fun a σ'=>a=.ref (pl.p .c) 0 13∧σ'=σ:=by refine Q3 Z71.2 mixed rfl ?_;simp only[Z71,qH];have hc:=h.c;push_cast[hc,aInt];exact trivial
theorem Z86:FnG Tryz.prog 46 [.ref (pl.p .c) 0 0] σ fun a σ'=>a=.tup [aInt s.status,aInt s.why]∧σ'=σ:=by refine Q3 Z26.2 mixed rfl ?_;simp only[Z26,qH];have hc:=h.c;push_cast[hc,aInt];exact trivial
theorem core_Stop_a (st why:Int):FnG Tryz.prog 146 [.ref (pl.p .c) 0 0,.v (.int .i64 st),.v (.int .i64 why)] σ fun _ σ'=>MM q pl σ' L (s.stop st why)∧Ext pl pl σ σ':=by
 refine Q3 Xd.2 mixed rfl ?_;simp only[Xd,qH];have hc:=h.c;have hlt:=Qh hc;by_cases c:s.status=0
 ·have e:s.stop st why={ s with status:=st,why:=why }:=if_pos c;rw[e];push_cast[hc,c];refine Q9 rfl rfl hc (by simp[Y49]) ?_;push_cast;refine Q9 rfl rfl (Qb hc) (by simp[Y49]) ?_;push_cast[List.set_set];exact ⟨h.core (s':={ s with status:=st,why:=why }) rfl,Ext.set ..⟩
 ·have e:s.stop st why=s:=if_neg c;rw[e];push_cast[hc,c];exact ⟨h,.refl _ _⟩
theorem Y90:FnG Tryz.prog 276 [.ref (pl.p .c) 0 0] σ fun a σ'=>a=aInt (w64 (s.serial+1))∧MM q pl σ' L { s with serial:=w64 (s.serial+1) }∧Ext pl pl σ σ':=by refine Q3 Z39.2 mixed rfl ?_;simp only[Z39,qH];have hc:=h.c;have hlt:=Qh hc;push_cast (disch:=omega)[hc];refine Q9 rfl rfl hc (by simp[Y49]) ?_;push_cast (disch:=omega)[aInt];exact ⟨h.core (s':={ s with serial:=w64 (s.serial+1) }) rfl,Ext.set ..⟩
theorem core_Code_a (fn pc:Int):FnG Tryz.prog 151 [.ref (pl.p .c) 0 0,.v (.int .i64 fn),.v (.int .i64 pc)] σ fun a σ'=>a=.agg (aIx (q.code fn pc))∧σ'=σ:=by
 refine FnG.drop0 (fun a h=>by subst h;rfl) ?_;refine Q3 Xe.2 mixed rfl ?_;simp only[Xe,qH];have hc:=Qn (τ:=[Res.obj 0 [AV.v (.int .i64 0),AV.v (.int .i64 0),AV.v (.int .i64 0),AV.v (.int .i64 0)]]) h.c;have ⟨hfs,hfl⟩:=h.sd.fs;have z4:fillA [AV.v (.int .i64 0),AV.v (.int .i64 0),AV.v (.int .i64 0),AV.v (.int .i64 0)] [] []=some [AV.v (.int .i64 0),AV.v (.int .i64 0),AV.v (.int .i64 0),AV.v (.int .i64 0)]:=rfl;have hs:∀x,setAtA [AV.v (.int .i64 0),AV.v (.int .i64 0),AV.v (.int .i64 0),AV.v (.int .i64 0)] 0 (aIx x)=aIx x:=fun x=>rfl;have z4':setAtA [AV.v (.int .i64 0),AV.v (.int .i64 0),AV.v (.int .i64 0),AV.v (.int .i64 0)] 0 [AV.v (.int .i64 0),AV.v (.int .i64 0),AV.v (.int .i64 0),AV.v (.int .i64 0)]=aIx ⟨0,0,0,0⟩:=rfl;have cx:∀x,cellsA (some 4) (aIx x)=some (.agg (aIx x)):=fun x=>rfl;by_cases c1:fn < 0
 ·have e:q.code fn pc=⟨0,0,0,0⟩:=if_pos (.inl c1);rw[e];push_cast (maxSteps:=999999) -implicitDefEqProofs (disch:=omega);refine Qm ?_;push_cast (maxSteps:=999999) -implicitDefEqProofs (disch:=omega)[c1,z4];refine Qd (cs:=[AV.v (.int .i64 0),AV.v (.int .i64 0),AV.v (.int .i64 0),AV.v (.int .i64 0)]) rfl rfl (Qe _ _) ke ?_;rw[z4',Qu];push_cast (maxSteps:=999999) -implicitDefEqProofs (disch:=omega)[Qe,cx];exact ⟨_,rfl⟩
 by_cases c2:(q.fs.length:Int)≤fn
 ·have e:q.code fn pc=⟨0,0,0,0⟩:=by
   unfold Pm.code;have:q.fs.getD fn.toNat []=[]:=by rw[List.getD_eq_getElem?_getD,List.getElem?_eq_none ka];rfl
   rw[this];split<;>simp
  rw[e];push_cast (maxSteps:=999999) -implicitDefEqProofs (disch:=omega);refine Qm ?_;push_cast (maxSteps:=999999) -implicitDefEqProofs (disch:=omega)[c1,c2,hc,z4];refine Qd (cs:=[AV.v (.int .i64 0),AV.v (.int .i64 0),AV.v (.int .i64 0),AV.v (.int .i64 0)]) rfl rfl (Qe _ _) ke ?_;rw[z4',Qu];push_cast (maxSteps:=999999) -implicitDefEqProofs (disch:=omega)[Qe,cx];exact ⟨_,rfl⟩
 by_cases c3:pc < 0
 ·have e:q.code fn pc=⟨0,0,0,0⟩:=if_pos (.inr c3);rw[e];push_cast (maxSteps:=999999) -implicitDefEqProofs (disch:=omega);refine Qm ?_;push_cast (maxSteps:=999999) -implicitDefEqProofs (disch:=omega)[c1,c2,c3,hc,z4];refine Qd (cs:=[AV.v (.int .i64 0),AV.v (.int .i64 0),AV.v (.int .i64 0),AV.v (.int .i64 0)]) rfl rfl (Qe _ _) ke ?_;rw[z4',Qu];push_cast (maxSteps:=999999) -implicitDefEqProofs (disch:=omega)[Qe,cx];exact ⟨_,rfl⟩
 obtain ⟨l,hl⟩:=Q23 (l:=q.fs) (k:=fn.toNat) ka;have hll:=hfl l (List.mem_of_getElem? hl);have hgl:(q.fs.map aIxs)[fn.toNat]?=some (aIxs l):=by rw[List.getElem?_map,hl];rfl
 have e0:q.code fn pc=l.getD pc.toNat ⟨0,0,0,0⟩:=by
  have e1:q.fs.getD fn.toNat []=l:=by rw[List.getD_eq_getElem?_getD,hl];rfl
  unfold Pm.code;rw[if_neg ka,e1]
 by_cases c4:(l.length:Int)≤pc
 ·have e:q.code fn pc=⟨0,0,0,0⟩:=by rw[e0,List.getD_eq_getElem?_getD,List.getElem?_eq_none ka];rfl
  rw[e];push_cast (maxSteps:=999999) -implicitDefEqProofs (disch:=omega);refine Qm ?_;push_cast (maxSteps:=999999) -implicitDefEqProofs (disch:=omega)[c1,c2,c3,c4,hc,z4,hgl,aIxs,aSlN];refine Qd (cs:=[AV.v (.int .i64 0),AV.v (.int .i64 0),AV.v (.int .i64 0),AV.v (.int .i64 0)]) rfl rfl (Qe _ _) ke ?_;rw[z4',Qu];push_cast (maxSteps:=999999) -implicitDefEqProofs (disch:=omega)[Qe,cx];exact ⟨_,rfl⟩
 ·obtain ⟨x,hx⟩:=Q23 (l:=l) (k:=pc.toNat) ka;have e:q.code fn pc=x:=by rw[e0,List.getD_eq_getElem?_getD,hx];rfl
  rw[e];have hd:=QQ (f:=aIx) (n:=4) (fun _=>rfl) hx;have cx2:∀t,cellsA (some 4) (aIx x++t)=some (.agg (aIx x)):=fun t=>by rw[XG _ _ (by simp[aIx])];rfl
  push_cast (maxSteps:=999999) -implicitDefEqProofs (disch:=omega);refine Qm ?_;push_cast (maxSteps:=999999) -implicitDefEqProofs (disch:=omega)[c1,c2,c3,c4,hc,z4,hgl,aIxs,aSlN,hd,cx2];refine Qd (cs:=[AV.v (.int .i64 0),AV.v (.int .i64 0),AV.v (.int .i64 0),AV.v (.int .i64 0)]) (l:=aIx x) rfl rfl (Qe _ _) (by simp[aIx]) ?_;rw[hs,Qu];push_cast (maxSteps:=999999) -implicitDefEqProofs (disch:=omega)[Qe,cx];exact ⟨_,rfl⟩
omit h in
theorem ask_len (d:List Int) (e:Ef):(askD d e).2.2.length=d.length:=by
 unfold askD
 repeat' split
 all_goals simp
omit h in
theorem ask_k (d:List Int) (e:Ef):(e.k=1→askD d e=askD d ⟨1,e.at_,0,0,0⟩∧(askD d e).2.2=d)∧(e.k=2→askD d e=askD d ⟨2,e.at_,e.v,0,0⟩∧(askD d e).1=0)∧(e.k=3→askD d e=askD d ⟨3,e.at_,e.v,0,0⟩)∧(e.k=4→askD d e=askD d ⟨4,e.at_,e.v,e.o,0⟩):=by
 refine ⟨fun h=>⟨?_,?_⟩,fun h=>⟨?_,?_⟩,fun h=>?_,fun h=>?_⟩<;>(unfold askD;simp only[h];try rfl)
 all_goals (split<;>simp)
omit h in
theorem ef_i (e:Ef):(aEf e)[0]?=some (.v (.int .i64 e.k))∧(aEf e)[1]?=some (.v (.int .i64 e.at_))∧(aEf e)[2]?=some (.v (.int .i64 e.v))∧(aEf e)[3]?=some (.v (.int .i64 e.o)):=⟨rfl,rfl,rfl,rfl⟩
theorem core_Ask_a (e:Ef) (hk:1≤e.k∧e.k≤4):FnG Tryz.prog 156 [.ref (pl.p .c) 0 0,.agg (aEf e)] σ fun a σ'=>a=.tup [aInt (askD s.data e).1,aBool (askD s.data e).2.1]∧MM q pl σ' L { s with data:=(askD s.data e).2.2 }∧Ext pl pl σ σ':=by
 refine Q3 Xy.2 mixed rfl ?_;simp only[Xy,qH];obtain ⟨g0,g1,g2,g3⟩:=ef_i e;have hac:(AV.agg (aEf e)).cells=aEf e:=rfl;obtain ⟨a1,a2,a3,a4⟩:=ask_k s.data e;have hD:=h.datas;have hlen:=ask_len s.data e;have fin:=h.setD hlen;push_cast;refine Q6 ?_;have hcs:e.k=1∨e.k=2∨e.k=3∨e.k=4:=by omega
 rcases hcs with hk|hk|hk|hk
 ·obtain ⟨e1,e2⟩:=a1 hk;push_cast[hac,g0,g1,g2,g3,hk];refine Q4 (Q17 h) ?_;push_cast[hac,g0,g1,g2,g3,hk];refine Q4 (st_Load_x hD.st hD.wd e.at_) ?_;rw[←e1];push_cast[aInt,aBool];refine ⟨?_,.refl _ _⟩;rw[e2];exact h
 ·obtain ⟨e1,e2⟩:=a2 hk;push_cast[hac,g0,g1,g2,g3,hk];refine Q4 (Q17 h) ?_;push_cast[hac,g0,g1,g2,g3,hk];refine Q4 (X49 hD.st hD.wd e.at_ e.v) ?_;rw[←e1];push_cast[aInt,aBool,e2];exact ⟨fin,Ext.set ..⟩
 ·have e1:=a3 hk;push_cast[hac,g0,g1,g2,g3,hk];refine Q4 (Q17 h) ?_;push_cast[hac,g0,g1,g2,g3,hk];refine Q4 (st_Add_x hD.st hD.wd e.at_ e.v) ?_;rw[←e1];push_cast[aInt,aBool];exact ⟨fin,Ext.set ..⟩
 ·have e1:=a4 hk;push_cast[hac,g0,g1,g2,g3,hk];refine Q4 (Q17 h) ?_;push_cast[hac,g0,g1,g2,g3,hk];refine Q4 (st_Swap_x hD.st hD.wd e.at_ e.v e.o) ?_;rw[←e1];push_cast[aInt,aBool];exact ⟨fin,Ext.set ..⟩
end
end Go.Proofs.YtelibaobkcokdaaGreat.Mx
namespace Go.Proofs.YtelibaobkcokdaaGreat
open Go Go.Kx Go.Proofs
set_option linter.unusedVariables false
set_option maxRecDepth 100000
set_option maxHeartbeats 16000000
noncomputable def Q78:=qH Tryz.prog 13
noncomputable def Q98:=qH Tryz.prog 14
noncomputable def X94:=qH Tryz.prog 15
noncomputable def Q99:=qH Tryz.prog 16
noncomputable def Z0:=qH Tryz.prog 49
noncomputable def Z1:=qH Tryz.prog 51
noncomputable def X95:=qH Tryz.prog 52
noncomputable def Q79:=qH Tryz.prog 93
noncomputable def ZS:=qH Tryz.prog 94
noncomputable def Z2:=qH Tryz.prog 95
noncomputable def Q54:=qH Tryz.prog 97
noncomputable def Q80:=qH Tryz.prog 98
noncomputable def Q55:=qH Tryz.prog 99
noncomputable def Q56:=qH Tryz.prog 100
noncomputable def Q40:=qH Tryz.prog 101
noncomputable def Z3:=qH Tryz.prog 102
noncomputable def Q81:=qH Tryz.prog 103
noncomputable def Z4:=qH Tryz.prog 104
noncomputable def Q82:=qH Tryz.prog 105
noncomputable def XZ:=qH Tryz.prog 106
noncomputable def Q83:=qH Tryz.prog 143
noncomputable def Q84:=qH Tryz.prog 147
noncomputable def YZ:=qH Tryz.prog 149
noncomputable def Z5:=qH Tryz.prog 154
noncomputable def Z6:=qH Tryz.prog 159
noncomputable def Q57:=qH Tryz.prog 162
noncomputable def Q41:=qH Tryz.prog 163
noncomputable def XA:=qH Tryz.prog 164
noncomputable def Z7:=qH Tryz.prog 166
noncomputable def Q42:=qH Tryz.prog 167
noncomputable def Q58:=qH Tryz.prog 168
noncomputable def Q59:=qH Tryz.prog 169
noncomputable def Z8:=qH Tryz.prog 172
noncomputable def ZT:=qH Tryz.prog 176
noncomputable def Z9:=qH Tryz.prog 179
noncomputable def Q60:=qH Tryz.prog 180
noncomputable def Za:=qH Tryz.prog 181
noncomputable def Q61:=qH Tryz.prog 182
noncomputable def Q31:=qH Tryz.prog 183
noncomputable def Zb:=qH Tryz.prog 184
noncomputable def Zc:=qH Tryz.prog 185
noncomputable def Q85:=qH Tryz.prog 186
noncomputable def Q86:=qH Tryz.prog 187
noncomputable def Zd:=qH Tryz.prog 188
noncomputable def Q87:=qH Tryz.prog 189
noncomputable def Q88:=qH Tryz.prog 219
noncomputable def Ze:=qH Tryz.prog 228
noncomputable def Zf:=qH Tryz.prog 229
noncomputable def Zg:=qH Tryz.prog 230
noncomputable def Q89:=qH Tryz.prog 231
noncomputable def Zh:=qH Tryz.prog 232
noncomputable def Zi:=qH Tryz.prog 248
noncomputable def X00:=qH Tryz.prog 249
noncomputable def Zj:=qH Tryz.prog 254
noncomputable def Q62:=qH Tryz.prog 290
end Go.Proofs.YtelibaobkcokdaaGreat
namespace Go.Proofs.YtelibaobkcokdaaGreat.Mx
set_option linter.unusedSectionVars false
set_option linter.unusedVariables false
set_option linter.unusedSimpArgs false
open Go Go.Kx Go.Proofs Go.Proofs.YtelibaobkcokdaaGreat
set_option maxRecDepth 8000
theorem cells8b (rs:List Int) (t:List AV):cellsA (some 8) (aRg rs++t)=some (.agg (aRg rs)):=by rw[XG _ _ (by simp[YD])];rfl
structure FP (n:Nat) (pl:Pl) (σ:Kx.St) (s:Cs) (id:Int) (f:Fm) (i off:Nat):Prop where
 cs:∃cs t,σ[i]?=some (.obj 0 cs)∧cs.drop off=aFm f++t∧off+19≤cs.length
 wh:(s.isHeld id=true∧i=pl.p .fl∧off=id.toNat * 19∧s.fr[id.toNat]?=some f)∨(s.isHeld id=false∧(∀ro,pl.p ro≠i)∧n≤i)
theorem FP.get {n:Nat} {pl:Pl} {σ:Kx.St} {s:Cs} {id:Int} {f:Fm} {i off:Nat} (h:FP n pl σ s id f i off):∃cs,σ[i]?=some (.obj 0 cs)∧(∀j x,(aFm f)[j]?=some x→cs[off+j]?=some x)∧cellsA (some 8) (cs.drop (off+3))=some (.agg (aRg f.regs))∧cellsA (some 19) (cs.drop off)=some (.agg (aFm f))∧off+19≤cs.length:=by
 obtain ⟨cs,t,h1,h2,h3⟩:=h.cs;refine ⟨cs,h1,fun j x hx=>?_,?_,?_,h3⟩
 ·rw[←List.getElem?_drop,h2,List.getElem?_append_left (Qh hx)];exact hx
 ·rw[←List.drop_drop,h2];have:(aFm f++t).drop 3=aRg f.regs++(aFm f++t).drop 11:=rfl;rw[this];exact cells8b _ _
 ·rw[h2,XG _ _ (by simp[Q16])];rfl
theorem Q32 {s:Cs} {id:Int}:s.isHeld id=heldL s.held id:=rfl
section
variable {q:Pm} {pl:Pl} {σ:Kx.St} {L:List Wk} {s:Cs}
theorem MM.at_held (h:MM q pl σ L s) {id:Int} (hh:s.isHeld id=true):0 < id∧id < s.fr.length∧s.fr[id.toNat]?=some (s.at id):=by
 obtain ⟨h1,h2,h3⟩:=Y88 (Q32 ▸ hh);have hl:=h.sd.hl;obtain ⟨x,hx⟩:=Q23 (l:=s.fr) (k:=id.toNat) ka;refine ⟨h1,by omega,?_⟩;unfold Cs.at
 rw[if_pos hh,List.getD_eq_getElem?_getD,hx];rfl
theorem MM.fp (h:MM q pl σ L s) (n:Nat) {id:Int} (hh:s.isHeld id=true):FP n pl σ s id (s.at id) (pl.p .fl) (id.toNat * 19):=by obtain ⟨h1,h2,h3⟩:=h.at_held hh;refine ⟨⟨_,_,h.fl,QQ Q16 h3,?_⟩,.inl ⟨hh,rfl,rfl,h3⟩⟩;rw[fr_len];have:=Qh h3;omega
theorem Y23 (h:MM q pl σ L s) (id:Int):(s.at id).regs.length=8:=by
 unfold Cs.at
 split
 ·rename_i hh;obtain ⟨h1,h2,h3⟩:=h.at_held hh;rw[List.getD_eq_getElem?_getD,h3];exact h.sd.rg _ (List.mem_of_getElem? h3)
 ·rfl
theorem FP.turn (h:MM q pl σ L s) {pl0:Pl} {σ0:Kx.St} (hx:Ext pl0 pl σ0 σ) {id:Int} {f f':Fm} {i off:Nat} (hf:FP σ0.length pl σ s id f i off) (hr:f'.regs.length=8) {cs cs':List AV} (hcs:σ[i]?=some (.obj 0 cs)) (hl:cs'.length=cs.length)
  (hc:∀A B,A.length=off→cs=A++aFm f++B→cs'=A++aFm f'++B):MM q pl (σ.set i (.obj 0 cs')) L (s.setFr id f')∧FP σ0.length pl (σ.set i (.obj 0 cs')) (s.setFr id f') id f' i off∧Ext pl0 pl σ0 (σ.set i (.obj 0 cs')):=by
 obtain ⟨cs0,t,h1,h2,h3⟩:=hf.cs;rw[hcs] at h1;cases h1;have hsplit:cs=cs.take off++aFm f++t:=by rw[List.append_assoc,←h2,List.take_append_drop]
 have hcs':=hc (cs.take off) t oJ hsplit;have hd':cs'.drop off=aFm f'++t:=by rw[hcs',List.append_assoc,List.drop_append_of_le_length oJ,List.drop_of_length_le oJ,List.nil_append]
 rcases hf.wh with ⟨w1,w2,w3,w4⟩|⟨w1,w2,w3⟩
 ·subst w2;have hfl:=h.fl;rw[hcs] at hfl;have ecs:cs=s.fr.flatMap aFm:=by cases hfl;rfl
  have hlt:=Qh w4;have e:s.setFr id f'={ s with fr:=s.fr.set id.toNat f' }:=if_pos w1;have hnew:cs'=(s.fr.set id.toNat f').flatMap aFm:=by rw[←fm_setAll s.fr hlt f',←ecs,hsplit,hcs',w3.symm,List.append_assoc,List.append_assoc];have:=XI (cs.take off) [] 0 (aFm f') (aFm f++t) 0;rw[Nat.add_zero,List.length_take,Nat.min_eq_left ka] at this;rw[this,Xz (aFm f') (aFm f) t rfl]
  rw[e]
  have hMM:MM q pl (σ.set (pl.p .fl) (.obj 0 cs')) L { s with fr:=s.fr.set id.toNat f' }:=by
   rw[hnew];refine h.upd1 rfl rfl rfl (fun ro hro=>?_) ⟨h.sd.ok,h.sd.ws,by simp only[List.length_set];exact h.sd.fr,by simp only[List.length_set];exact h.sd.hl,fun g hg=>?_,h.sd.bk,h.sd.ib,h.sd.f0,h.sd.o0,h.sd.l0,h.sd.ol,h.sd.dt,h.sd.dq,h.sd.fs⟩
   ·cases ro<;>first|rfl|exact absurd rfl hro|(simp only[img,aTb,List.length_set])
   ·rcases List.mem_or_eq_of_mem_set hg with hg|rfl
    ·exact h.sd.rg g hg
    ·exact hr
  exact ⟨hMM,⟨⟨_,_,Qb hcs,hd',by omega⟩,.inl ⟨w1,rfl,w3,by simp only[List.getElem?_set_self hlt]⟩⟩,hx.trans (Ext.set ..)⟩
 ·have e:s.setFr id f'=s:=if_neg (by rw[w1];simp);rw[e];refine ⟨⟨fun ro r er=>?_,h.inj,h.sd,fun ro=>by rw[List.length_set];exact h.lt ro⟩,⟨⟨_,_,Qb hcs,hd',by omega⟩,.inr ⟨w1,w2,w3⟩⟩,⟨by simpa using hx.len,fun j hj hp=>?_,hx.new,hx.fix⟩⟩
  ·rw[List.getElem?_set_ne fun e=>w2 ro e.symm];exact h.at_ ro r er
  ·rw[List.getElem?_set_ne ka];exact hx.keep j hj hp
theorem fm_set1 {f f':Fm} {j:Nat} {x:AV} (hj:j < 19) (hx:(aFm f).set j x=aFm f') {cs:List AV} {off:Nat}:∀A B,A.length=off→cs=A++aFm f++B→cs.set (off+j) x=A++aFm f'++B:=by intro A B hA e;subst hA;rw[e,List.append_assoc,List.set_append_right _ _ ka,show A.length+j - A.length=j by omega,List.set_append_left _ _ (by rw[Q16];exact hj),hx,List.append_assoc]
theorem fm_setR {f:Fm} (rs:List Int) {cs:List AV} {off:Nat}:∀A B,A.length=off→cs=A++aFm f++B→setAtA cs (off+3) (aRg rs)=A++aFm { f with regs:=rs }++B:=by intro A B hA e;subst hA;rw[e,List.append_assoc,XI A [] 3,setAtA_left [] _ _ _ _ (by rw[Q16,YD];decide),List.append_assoc];rfl
theorem Y51 (h:MM q pl σ L s) (id:Int):FnG Tryz.prog 115 [.ref (pl.p .t) 0 0,.v (.int .i64 id)] σ fun a σ'=>a=(if s.isHeld id then .ref (pl.p .fl) 0 (id.toNat * 19) else .v (.pointer none))∧σ'=σ:=by
 refine Q3 Xc.2 mixed rfl ?_;simp only[Xc,qH];have hT:=h.tb;have hA:=h.arena;push_cast (disch:=omega)[hT];refine Q4 (X93 hA.ar hA.hl (by have:=hA.len;omega) id) ?_;rw[←Q32]
 cases c:s.isHeld id with
 | false=>push_cast (disch:=omega)[aBool];exact trivial
 | true=>
  obtain ⟨h1,h2,h3⟩:=h.at_held c;push_cast (disch:=omega)[aBool,hT]
  first|exact trivial|exact ⟨rfl,trivial⟩
theorem Y00 (h:MM q pl σ L s) {pl0:Pl} {σ0:Kx.St} (hx:Ext pl0 pl σ0 σ) (id:Int):FnG Tryz.prog 149 [.ref (pl.p .c) 0 0,.v (.int .i64 id)] σ fun a σ'=>(∃i off,a=.ref i 0 off∧FP σ0.length pl σ' s id (s.at id) i off)∧MM q pl σ' L s∧Ext pl0 pl σ0 σ':=by
 refine Q3 YZ.2 mixed rfl ?_;simp only[YZ,qH];push_cast;refine Q4 (Zz h) ?_;push_cast;refine Q4 (Y51 h id) ?_
 cases c:s.isHeld id with
 | true=>push_cast;exact ⟨⟨_,_,rfl,h.fp _ c⟩,h,hx⟩
 | false=>have e0:s.at id=fm0:=if_neg (by rw[c];simp);rw[e0];push_cast;rw[show [AV.v (.int .i64 0),AV.v (.int .i64 0),AV.v (.int .i64 0),AV.v (.int .i64 0),AV.v (.int .i64 0),AV.v (.int .i64 0),AV.v (.int .i64 0),AV.v (.int .i64 0),AV.v (.int .i64 0),AV.v (.int .i64 0),AV.v (.int .i64 0),AV.v (.int .i64 0),AV.v (.bool false),AV.v (.bool false),AV.v (.int .i64 0),AV.v (.int .i64 0),AV.v (.int .i64 0),AV.v (.int .i64 0),AV.v (.int .i64 0)]=aFm fm0 from rfl];refine Qs ?_;push_cast;exact ⟨⟨σ.length,0,rfl,⟨_,[],Qe _ _,by simp,by simp[Q16]⟩,.inr ⟨c,fun ro=>by have:=h.lt ro;omega,hx.len⟩⟩,h.app _,hx.trans (Ext.app ..)⟩
theorem Y24 (h:MM q pl σ L s) {pl0:Pl} {σ0:Kx.St} (hx:Ext pl0 pl σ0 σ) {k:Nat} {w:Wk} (hk:L[k]?=some w):FnG Tryz.prog 147 [.ref (pl.p (.wk k)) 0 0,.ref (pl.p .c) 0 0] σ fun a σ'=>(∃i off,a=.ref i 0 off∧FP σ0.length pl σ' s w.holds (s.at w.holds) i off)∧MM q pl σ' L s∧Ext pl0 pl σ0 σ':=by refine Q3 Q84.2 mixed rfl ?_;simp only[Q84,qH];have hw:=h.wk hk;have g2:(aWk pl k w)[2]?=some (.v (.int .i64 w.holds)):=rfl;push_cast[hw,g2];refine Q0 (Y00 h hx w.holds) ?_;rintro a σ' ⟨⟨i,off,rfl,hf⟩,hM,hX⟩;push_cast;exact ⟨⟨i,off,rfl,hf⟩,hM,hX⟩
theorem MM.give (h:MM q pl σ L s) {id:Int} (hh:s.isHeld id=true) {σ':Kx.St} {g':Bg} (A:ArAt σ' (pl.p .ar) (pl.p .hl) g' (s.held.set id.toNat false) (s.back++[id]) s.fresh s.peak) (hlen:σ.length≤σ'.length)
  (hk:∀j,j < σ.length→j≠pl.p .ar→j≠pl.p .hl→(∀p v cs,bgOf pl=some (p,v,cs)→j≠p)→σ'[j]?=σ[j]?) (hg:GivePl (bgOf pl) g' σ.length):
  Out q pl σ σ' L (s.free id):=by
 have e:s.free id={ s with held:=s.held.set id.toNat false,back:=s.back++[id] }:=if_pos hh;rw[e]
 obtain ⟨n,v,cs,hn,rfl,hbs⟩:∃n v cs,(n=pl.p .bk∧pl.bg.isSome=true∨n=σ.length)∧g'=some (n,v,cs)∧(pl.bg.isSome=true→n=pl.p .bk):=by
  cases hb:pl.bg with
  | none=>simp only[GivePl,bgOf,hb,Option.map_none] at hg;obtain ⟨v,cs,rfl⟩:=hg;exact ⟨_,_,_,.inr rfl,rfl,fun h=>by cases h⟩
  | some x=>simp only[GivePl,bgOf,hb,Option.map_some] at hg;obtain ⟨v,cs,rfl⟩:=hg;exact ⟨_,_,_,.inl ⟨rfl,rfl⟩,rfl,fun _=>rfl⟩
 have hb:=A.bk;have himg:∀ro,ro≠.bk→ro≠.ar→ro≠.hl→img q { pl.put .bk n with bg:=some (v,cs) } L { s with held:=s.held.set id.toNat false,back:=s.back++[id] } ro=img q pl L s ro:=by intro ro h1 h2 h3;cases ro<;>first|exact absurd rfl h1|exact absurd rfl h2|exact absurd rfl h3|(simp[img,aCore,aTb,aWk,Pl.put];done)|rfl
 have hp:∀ro,ro≠.bk→({ pl.put .bk n with bg:=some (v,cs) }:Pl).p ro=pl.p ro:=fun ro hr=>Q14 hr;have hpb:({ pl.put .bk n with bg:=some (v,cs) }:Pl).p .bk=n:=Qo pl .bk n;have hA:=h.ne (a:=.ar) (b:=.hl) rfl rfl ko
 have hnl:∀ro,ro≠.bk→(img q pl L s ro).isSome=true→pl.p ro≠n:=fun ro hr hs en=>by
  rcases hn with ⟨e2,hb2⟩|e2
  ·exact hr (h.inj ro .bk hs (by simp only[img,Option.isSome_map];exact hb2) (en.trans e2))
  ·have:=h.lt ro;omega
 refine ⟨{ pl.put .bk n with bg:=some (v,cs) },⟨fun ro r er=>?_,fun a b ha hb2 hab=>?_,⟨h.sd.ok,h.sd.ws,h.sd.fr,by simp only[List.length_set];exact h.sd.hl,h.sd.rg,⟨hb.2.1,hb.2.2.1⟩,A.inb,h.sd.f0,h.sd.o0,h.sd.l0,h.sd.ol,h.sd.dt,h.sd.dq,h.sd.fs⟩,fun ro=>?_⟩,⟨hlen,fun j hj hpj=>?_,fun ro=>?_,fun ro hf=>?_⟩⟩
 ·by_cases e1:ro=.bk
  ·subst e1;rw[hpb];simp only[img,Option.map_some,Option.some.injEq] at er;subst er;exact hb.1
  by_cases e2:ro=.ar
  ·subst e2;rw[hp _ e1];simp only[img,Option.some.injEq] at er;subst er;have:bgOf { pl.put .bk n with bg:=some (v,cs) }=some (n,v,cs):=by simp[bgOf,Pl.put]
   rw[this,hp _ ko];exact A.ar
  by_cases e3:ro=.hl
  ·subst e3;rw[hp _ e1];simp only[img,Option.some.injEq] at er;subst er;exact A.hl
  ·have er2:img q pl L s ro=some r:=by rw[←himg ro e1 e2 e3];exact er
   have hs:(img q pl L s ro).isSome=true:=by rw[er2];rfl
   rw[hp _ e1,hk _ (h.lt ro) (h.ne hs rfl e2) (h.ne hs rfl e3) fun p v' cs' eb=>?_]
   ·exact h.at_ _ _ er2
   ·unfold bgOf at eb
    cases hb:pl.bg with
    | none=>rw[hb] at eb;cases eb
    | some x=>rw[hb] at eb;cases eb;exact h.ne hs (by simp[img,hb]) e1
 ·have hs:∀ro,ro≠.bk→(img q { pl.put .bk n with bg:=some (v,cs) } L { s with held:=s.held.set id.toNat false,back:=s.back++[id] } ro).isSome=true→(img q pl L s ro).isSome=true:=fun ro hr he=>by
   by_cases e2:ro=.ar
   ·subst e2;rfl
   by_cases e3:ro=.hl
   ·subst e3;rfl
   rw[←himg ro hr e2 e3];exact he
  by_cases ea:a=.bk
  ·by_cases eb:b=.bk
   ·rw[ea,eb]
   ·subst ea;rw[hpb,hp _ eb] at hab;exact absurd hab.symm (hnl b eb (hs b eb hb2))
  ·by_cases eb:b=.bk
   ·subst eb;rw[hpb,hp _ ea] at hab;exact absurd hab (hnl a ea (hs a ea ha))
   ·rw[hp _ ea,hp _ eb] at hab;exact h.inj a b (hs a ea ha) (hs b eb hb2) hab
 ·by_cases e1:ro=.bk
  ·subst e1;rw[hpb];exact Qh hb.1
  ·rw[hp _ e1];have:=h.lt ro;omega
 ·exact hk j hj (Ne.symm (hpj _)) (Ne.symm (hpj _)) fun p v' cs' eb=>by
   unfold bgOf at eb
   cases hb:pl.bg with
   | none=>rw[hb] at eb;cases eb
   | some x=>rw[hb] at eb;cases eb;exact Ne.symm (hpj _)
 ·by_cases e1:ro=.bk
  ·subst e1;rw[hpb];rcases hn with ⟨rfl,_⟩|rfl
   ·exact .inl rfl
   ·exact .inr (Nat.le_refl _)
  ·exact .inl (hp _ e1)
 ·exact hp _ fun e=>by subst e;cases hf
theorem frame_Free_a (h:MM q pl σ L s) (hb:s.back.length≤1000000000) (id:Int):FnG Tryz.prog 247 [.ref (pl.p .t) 0 0,.v (.int .i64 id)] σ fun _ σ'=>Out q pl σ σ' L (s.free id):=by
 refine Q3 Z36.2 mixed rfl ?_;simp only[Z36,qH];have hT:=h.tb;push_cast[hT];refine Q0 (arena_Give_a h.arena hb id) ?_;intro a σ' H
 cases c:heldL s.held id with
 | false=>rw[c] at H;simp only[if_false,Bool.false_eq_true] at H;obtain ⟨rfl,hs⟩:=H;rw[hs];have e:s.free id=s:=if_neg (by rw[Q32,c];simp);rw[e];push_cast[aBool];exact Out.of h
 | true=>rw[c] at H;simp only[if_true] at H;obtain ⟨rfl,g',A,h1,h2,h3⟩:=H;have:=h.give (by rw[Q32,c]) A h1 h2 h3;push_cast[aBool];exact this
theorem frame_Used_a (h:MM q pl σ L s):FnG Tryz.prog 57 [.ref (pl.p .t) 0 0] σ fun a σ'=>a=aInt (usedN s.held)∧σ'=σ:=by refine Q3 Z28.2 mixed rfl ?_;simp only[Z28,qH];have hT:=h.tb;have hA:=h.arena;push_cast[hT];refine Q4 (X92 hA.ar hA.hl (by have:=hA.len;omega)) ?_;push_cast[aInt];exact trivial
theorem arena_Peak_a (h:MM q pl σ L s):FnG Tryz.prog 112 [.ref (pl.p .ar) 0 0] σ fun a σ'=>a=aInt s.peak∧σ'=σ:=by refine Q3 Z32.2 mixed rfl ?_;simp only[Z32,qH];have hA:=h.ar;push_cast[hA,aInt];exact trivial
theorem frame_Peak_a (h:MM q pl σ L s):FnG Tryz.prog 63 [.ref (pl.p .t) 0 0] σ fun a σ'=>a=aInt s.peak∧σ'=σ:=by refine Q3 Z29.2 mixed rfl ?_;simp only[Z29,qH];have hT:=h.tb;push_cast[hT];refine Q4 (arena_Peak_a h) ?_;push_cast[aInt];exact trivial
theorem MM.emit0 (h:MM q pl σ L s) (e:Int) (ho:s.out.length+1≤1000) (hv:pl.ov=none):MM q { pl.put .ot σ.length with ov:=some 1 } ((σ++[Res.tail 1]).set (pl.p .so) (Res.obj 0 [AV.sl (s.out.length+1) (s.out.map aInt++[AV.v (.int .i64 e)]) (.id σ.length 1 1),.v (.int .i64 q.O)])) L { s with out:=s.out++[e] } ∧
  Ext pl { pl.put .ot σ.length with ov:=some 1 } σ ((σ++[Res.tail 1]).set (pl.p .so) (Res.obj 0 [AV.sl (s.out.length+1) (s.out.map aInt++[AV.v (.int .i64 e)]) (.id σ.length 1 1),.v (.int .i64 q.O)])):=by
 have himg:∀ro,ro≠.ot→ro≠.so→img q { pl.put .ot σ.length with ov:=some 1 } L { s with out:=s.out++[e] } ro=img q pl L s ro:=by intro ro h1 h2;cases ro<;>first|exact absurd rfl h1|exact absurd rfl h2|(simp[img,aCore,aTb,aWk,Pl.put,bgOf];done)|rfl
 have hp:∀ro,ro≠.ot→({ pl.put .ot σ.length with ov:=some 1 }:Pl).p ro=pl.p ro:=fun ro hr=>Q14 hr;have hpb:({ pl.put .ot σ.length with ov:=some 1 }:Pl).p .ot=σ.length:=Qo pl .ot σ.length;have hso:=h.lt .so;have hdead:(img q pl L s .ot).isSome=false:=by simp[img,hv]
 refine ⟨⟨fun ro r er=>?_,fun a b ha hb hab=>?_,⟨h.sd.ok,h.sd.ws,h.sd.fr,h.sd.hl,h.sd.rg,h.sd.bk,h.sd.ib,h.sd.f0,ke,h.sd.l0,(by simpa using ho),h.sd.dt,h.sd.dq,h.sd.fs⟩,fun ro=>?_⟩,⟨by simp,fun j hj hpj=>?_,fun ro=>?_,fun ro hf=>hp _ fun e=>by subst e;cases hf⟩⟩
 ·by_cases e1:ro=.ot
  ·subst e1;rw[hpb];simp only[img,Option.map_some,Option.some.injEq] at er;subst er;rw[List.getElem?_set_ne ka];exact Qe _ _
  by_cases e2:ro=.so
  ·subst e2;rw[hp _ e1];simp only[img,Option.some.injEq] at er;subst er;rw[hpb,List.getElem?_set_self eG];simp[tokT,aInt]
  ·have er2:img q pl L s ro=some r:=by rw[←himg ro e1 e2];exact er
   have hs:(img q pl L s ro).isSome=true:=by rw[er2];rfl
   rw[hp _ e1,List.getElem?_set_ne (h.ne rfl hs (Ne.symm e2))];exact Qn (h.at_ _ _ er2)
 ·have hs:∀ro,ro≠.ot→(img q { pl.put .ot σ.length with ov:=some 1 } L { s with out:=s.out++[e] } ro).isSome=true→(img q pl L s ro).isSome=true:=fun ro hr he=>by
   by_cases e2:ro=.so
   ·subst e2;rfl
   rw[←himg ro hr e2];exact he
  by_cases ea:a=.ot
  ·by_cases eb:b=.ot
   ·rw[ea,eb]
   ·subst ea;rw[hpb,hp _ eb] at hab;have:=h.lt b;omega
  ·by_cases eb:b=.ot
   ·subst eb;rw[hpb,hp _ ea] at hab;have:=h.lt a;omega
   ·rw[hp _ ea,hp _ eb] at hab;exact h.inj a b (hs a ea ha) (hs b eb hb) hab
 ·by_cases e1:ro=.ot
  ·subst e1;rw[hpb];simp
  ·rw[hp _ e1];have:=h.lt ro;simp;omega
 ·rw[List.getElem?_set_ne (hpj _),List.getElem?_append_left hj]
 ·by_cases e1:ro=.ot
  ·subst e1;rw[hpb];exact .inr (Nat.le_refl _)
  ·exact .inl (hp _ e1)
theorem MM.emit1 (h:MM q pl σ L s) (e:Int) (ho:s.out.length+1≤1000) {v:Nat} (hv:pl.ov=some v):MM q { pl with ov:=some (v+1) } ((σ.set (pl.p .ot) (Res.tail (v+1))).set (pl.p .so) (Res.obj 0 [AV.sl (s.out.length+1) (s.out.map aInt++[AV.v (.int .i64 e)]) (.id (pl.p .ot) (v+1) 1),.v (.int .i64 q.O)])) L { s with out:=s.out++[e] } ∧
  Ext pl { pl with ov:=some (v+1) } σ ((σ.set (pl.p .ot) (Res.tail (v+1))).set (pl.p .so) (Res.obj 0 [AV.sl (s.out.length+1) (s.out.map aInt++[AV.v (.int .i64 e)]) (.id (pl.p .ot) (v+1) 1),.v (.int .i64 q.O)])):=by
 have hlo:(img q pl L s .ot).isSome=true:=by simp[img,hv]
 have hne:=h.ne hlo (b:=.so) rfl ko;have himg:∀ro,ro≠.ot→ro≠.so→img q { pl with ov:=some (v+1) } L { s with out:=s.out++[e] } ro=img q pl L s ro:=by intro ro h1 h2;cases ro<;>first|exact absurd rfl h1|exact absurd rfl h2|rfl
 have hs:∀ro,(img q { pl with ov:=some (v+1) } L { s with out:=s.out++[e] } ro).isSome=true→(img q pl L s ro).isSome=true:=fun ro he=>by
  by_cases e1:ro=.ot
  ·subst e1;exact hlo
  by_cases e2:ro=.so
  ·subst e2;rfl
  rw[←himg ro e1 e2];exact he
 refine ⟨⟨fun ro r er=>?_,fun a b ha hb hab=>h.inj a b (hs a ha) (hs b hb) hab,⟨h.sd.ok,h.sd.ws,h.sd.fr,h.sd.hl,h.sd.rg,h.sd.bk,h.sd.ib,h.sd.f0,ke,h.sd.l0,(by simpa using ho),h.sd.dt,h.sd.dq,h.sd.fs⟩,fun ro=>by have:=h.lt ro;simpa using this⟩,⟨by simp,fun j hj hpj=>?_,fun ro=>.inl rfl,fun ro hf=>rfl⟩⟩
 ·show ((σ.set (pl.p .ot) (Res.tail (v+1))).set (pl.p .so) _)[pl.p ro]?=some r;by_cases e1:ro=.ot
  ·subst e1;simp only[img,Option.map_some,Option.some.injEq] at er;subst er;rw[List.getElem?_set_ne hne.symm,List.getElem?_set_self (h.lt _)]
  by_cases e2:ro=.so
  ·subst e2;simp only[img,Option.some.injEq] at er;subst er;rw[List.getElem?_set_self (by simpa using h.lt _)];simp[tokT,aInt]
  ·have er2:img q pl L s ro=some r:=by rw[←himg ro e1 e2];exact er
   have hs2:(img q pl L s ro).isSome=true:=by rw[er2];rfl
   rw[List.getElem?_set_ne (h.ne rfl hs2 (Ne.symm e2)),List.getElem?_set_ne (h.ne hlo hs2 (Ne.symm e1))];exact h.at_ _ _ er2
 ·rw[List.getElem?_set_ne (hpj _),List.getElem?_set_ne (hpj _)]
theorem MM.note0 (h:MM q pl σ L s) (e:Vt) (hv:pl.lv=none):MM q { pl.put .lt σ.length with lv:=some 1 } ((σ++[Res.tail 1]).set (pl.p .lo) (Res.obj 0 [AV.sl (s.log.length+1) (s.log.flatMap aVt++aVt e) (.id σ.length 1 4)])) L { s with log:=s.log++[e] } ∧
  Ext pl { pl.put .lt σ.length with lv:=some 1 } σ ((σ++[Res.tail 1]).set (pl.p .lo) (Res.obj 0 [AV.sl (s.log.length+1) (s.log.flatMap aVt++aVt e) (.id σ.length 1 4)])):=by
 have himg:∀ro,ro≠.lt→ro≠.lo→img q { pl.put .lt σ.length with lv:=some 1 } L { s with log:=s.log++[e] } ro=img q pl L s ro:=by intro ro h1 h2;cases ro<;>first|exact absurd rfl h1|exact absurd rfl h2|(simp[img,aCore,aTb,aWk,Pl.put,bgOf];done)|rfl
 have hp:∀ro,ro≠.lt→({ pl.put .lt σ.length with lv:=some 1 }:Pl).p ro=pl.p ro:=fun ro hr=>Q14 hr;have hpb:({ pl.put .lt σ.length with lv:=some 1 }:Pl).p .lt=σ.length:=Qo pl .lt σ.length;have hso:=h.lt .lo;have hdead:(img q pl L s .lt).isSome=false:=by simp[img,hv]
 refine ⟨⟨fun ro r er=>?_,fun a b ha hb hab=>?_,⟨h.sd.ok,h.sd.ws,h.sd.fr,h.sd.hl,h.sd.rg,h.sd.bk,h.sd.ib,h.sd.f0,h.sd.o0,ke,h.sd.ol,h.sd.dt,h.sd.dq,h.sd.fs⟩,fun ro=>?_⟩,⟨by simp,fun j hj hpj=>?_,fun ro=>?_,fun ro hf=>hp _ fun e=>by subst e;cases hf⟩⟩
 ·by_cases e1:ro=.lt
  ·subst e1;rw[hpb];simp only[img,Option.map_some,Option.some.injEq] at er;subst er;rw[List.getElem?_set_ne ka];exact Qe _ _
  by_cases e2:ro=.lo
  ·subst e2;rw[hp _ e1];simp only[img,Option.some.injEq] at er;subst er;rw[hpb,List.getElem?_set_self eG];simp[tokT,aInt]
  ·have er2:img q pl L s ro=some r:=by rw[←himg ro e1 e2];exact er
   have hs:(img q pl L s ro).isSome=true:=by rw[er2];rfl
   rw[hp _ e1,List.getElem?_set_ne (h.ne rfl hs (Ne.symm e2))];exact Qn (h.at_ _ _ er2)
 ·have hs:∀ro,ro≠.lt→(img q { pl.put .lt σ.length with lv:=some 1 } L { s with log:=s.log++[e] } ro).isSome=true→(img q pl L s ro).isSome=true:=fun ro hr he=>by
   by_cases e2:ro=.lo
   ·subst e2;rfl
   rw[←himg ro hr e2];exact he
  by_cases ea:a=.lt
  ·by_cases eb:b=.lt
   ·rw[ea,eb]
   ·subst ea;rw[hpb,hp _ eb] at hab;have:=h.lt b;omega
  ·by_cases eb:b=.lt
   ·subst eb;rw[hpb,hp _ ea] at hab;have:=h.lt a;omega
   ·rw[hp _ ea,hp _ eb] at hab;exact h.inj a b (hs a ea ha) (hs b eb hb) hab
 ·by_cases e1:ro=.lt
  ·subst e1;rw[hpb];simp
  ·rw[hp _ e1];have:=h.lt ro;simp;omega
 ·rw[List.getElem?_set_ne (hpj _),List.getElem?_append_left hj]
 ·by_cases e1:ro=.lt
  ·subst e1;rw[hpb];exact .inr (Nat.le_refl _)
  ·exact .inl (hp _ e1)
theorem MM.note1 (h:MM q pl σ L s) (e:Vt) {v:Nat} (hv:pl.lv=some v):MM q { pl with lv:=some (v+1) } ((σ.set (pl.p .lt) (Res.tail (v+1))).set (pl.p .lo) (Res.obj 0 [AV.sl (s.log.length+1) (s.log.flatMap aVt++aVt e) (.id (pl.p .lt) (v+1) 4)])) L { s with log:=s.log++[e] } ∧
  Ext pl { pl with lv:=some (v+1) } σ ((σ.set (pl.p .lt) (Res.tail (v+1))).set (pl.p .lo) (Res.obj 0 [AV.sl (s.log.length+1) (s.log.flatMap aVt++aVt e) (.id (pl.p .lt) (v+1) 4)])):=by
 have hlo:(img q pl L s .lt).isSome=true:=by simp[img,hv]
 have hne:=h.ne hlo (b:=.lo) rfl ko;have himg:∀ro,ro≠.lt→ro≠.lo→img q { pl with lv:=some (v+1) } L { s with log:=s.log++[e] } ro=img q pl L s ro:=by intro ro h1 h2;cases ro<;>first|exact absurd rfl h1|exact absurd rfl h2|rfl
 have hs:∀ro,(img q { pl with lv:=some (v+1) } L { s with log:=s.log++[e] } ro).isSome=true→(img q pl L s ro).isSome=true:=fun ro he=>by
  by_cases e1:ro=.lt
  ·subst e1;exact hlo
  by_cases e2:ro=.lo
  ·subst e2;rfl
  rw[←himg ro e1 e2];exact he
 refine ⟨⟨fun ro r er=>?_,fun a b ha hb hab=>h.inj a b (hs a ha) (hs b hb) hab,⟨h.sd.ok,h.sd.ws,h.sd.fr,h.sd.hl,h.sd.rg,h.sd.bk,h.sd.ib,h.sd.f0,h.sd.o0,ke,h.sd.ol,h.sd.dt,h.sd.dq,h.sd.fs⟩,fun ro=>by have:=h.lt ro;simpa using this⟩,⟨by simp,fun j hj hpj=>?_,fun ro=>.inl rfl,fun ro hf=>rfl⟩⟩
 ·show ((σ.set (pl.p .lt) (Res.tail (v+1))).set (pl.p .lo) _)[pl.p ro]?=some r;by_cases e1:ro=.lt
  ·subst e1;simp only[img,Option.map_some,Option.some.injEq] at er;subst er;rw[List.getElem?_set_ne hne.symm,List.getElem?_set_self (h.lt _)]
  by_cases e2:ro=.lo
  ·subst e2;simp only[img,Option.some.injEq] at er;subst er;rw[List.getElem?_set_self (by simpa using h.lt _)];simp[tokT,aInt]
  ·have er2:img q pl L s ro=some r:=by rw[←himg ro e1 e2];exact er
   have hs2:(img q pl L s ro).isSome=true:=by rw[er2];rfl
   rw[List.getElem?_set_ne (h.ne rfl hs2 (Ne.symm e2)),List.getElem?_set_ne (h.ne hlo hs2 (Ne.symm e1))];exact h.at_ _ _ er2
 ·rw[List.getElem?_set_ne (hpj _),List.getElem?_set_ne (hpj _)]
end
end Go.Proofs.YtelibaobkcokdaaGreat.Mx
