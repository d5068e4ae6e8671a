/- forebayref08: what an instruction does, by the document: the walks. -/
import Derived.Test.YtncdnegdlkmicaaGreatQArx
import Derived.Test.YtncdnegdlkmicaaGreatQSec
namespace Go.Proofs.YtncdnegdlkmicaaGreat
set_option linter.unusedVariables false
set_option linter.unusedSimpArgs false
open Go Go.Kx Go.Proofs
set_option maxHeartbeats 4000000 in
theorem QG (n:Int):FnP Tryz.prog 77 [aInt n] fun a=>a=aInt (heldN n):=by
 refine Qh Z98 mixed rfl rfl ?_
 simp only[Q94,aInt]
 by_cases h0:n < 0
 ·have e:heldN n=0:=by unfold heldN;omega
  rw[e]
  push_cast (disch:=omega)[h0]
  first|exact ⟨[],rfl,rfl⟩|exact ⟨[],rfl⟩
 by_cases h7:7 < n
 ·have e:heldN n=7:=by unfold heldN;omega
  rw[e]
  push_cast (disch:=omega)[h0,h7]
  first|exact ⟨[],rfl,rfl⟩|exact ⟨[],rfl⟩
 ·have e:heldN n=n:=by unfold heldN;omega
  rw[e]
  push_cast (disch:=omega)[h0,h7]
  first|exact ⟨[],rfl,rfl⟩|exact ⟨[],rfl⟩
set_option maxHeartbeats 64000000 in
theorem ref08_Do_a (x:Ix) (pc:Int) (rs:List Int) (hr:rs.length=8) (h64:R64 rs):FnP Tryz.prog 46 [.agg (aIx x),aInt pc,.agg (aRg rs)] fun a=>a=aDo (doF x pc rs):=by
 refine Qh XZ mixed rfl (by simp[AV.pureL,AV.pure,Zo,Q84,aInt]) ?_
 simp only[ZN,aInt]
 have hax:(AV.agg (aIx x)).cells=aIx x:=rfl
 have har:(AV.agg (aRg rs)).cells=aRg rs:=rfl
 have g0:(aIx x)[0]?=some (.v (.int .i64 x.op)):=rfl
 have g1:(aIx x)[1]?=some (.v (.int .i64 x.a)):=rfl
 have g2:(aIx x)[2]?=some (.v (.int .i64 x.b)):=rfl
 have g3:(aIx x)[3]?=some (.v (.int .i64 x.c)):=rfl
 obtain ⟨ha0,ha1⟩:=Z97 x.a
 obtain ⟨hb0,hb1⟩:=Z97 x.b
 obtain ⟨hc0,hc1⟩:=Z97 x.c
 have hset8:∀r:List Int,setAtA (aRg z8) 0 (aRg r)=aRg r:=fun r=>rfl
 have hset5:∀e:Ef,setAtA (aEf ef0) 0 (aEf e)=aEf e:=fun e=>rfl
 have hse:=fun v=>rg_set hr x.a v
 have hlen:(heldN x.a).toNat < (aRg rs).length:=Z96 x.a
 have ra:=rg_at rs x.a
 have rb:=rg_at rs x.b
 have rc:=rg_at rs x.c
 have fin:∀(r:Int×List Int×Ef×Int) (σ:Kx.St),doF x pc rs=r→∃is,((aDo r).res (Go.Kx.freeze is σ)).pure=true∧(aDo r).res (Go.Kx.freeze is σ)=aDo (doF x pc rs):=fun r σ h=>by rw[h];exact ZA [] (aDo_res _ _) (aDo_pure _)
 refine Q1 (fun ε σ=>(ε 1=.v (.int .i64 pc)∧ε 3=.ref 0 0 0∧ε 5=.ref 1 0 0∧ε 7=.ref 2 0 0∧ε 8=.ref 3 0 0)∧σ=[.obj 0 (aIx x),.obj 0 (aRg rs),.obj 0 (aRg z8),.obj 0 (aEf ef0)]) ?_ ?_
 ·intro N X R hN
  push_cast (maxSteps:=999999) (disch:=omega)
  refine Qd ?_
  push_cast (maxSteps:=999999) (disch:=omega)[hax]
  refine Qd ?_
  push_cast (maxSteps:=999999) (disch:=omega)[har]
  refine Qb ?_
  push_cast (maxSteps:=999999) (disch:=omega)
  refine Qb ?_
  push_cast (maxSteps:=999999) (disch:=omega)
  exact hN _ _ ⟨by push_cast (maxSteps:=999999) (disch:=omega),rfl⟩
 rintro ε σ ⟨hρ,rfl⟩
 refine Q1 (fun ε σ=>(ε 1=.v (.int .i64 pc)∧ε 3=.ref 0 0 0∧ε 5=.ref 1 0 0∧ε 7=.ref 2 0 0∧ε 8=.ref 3 0 0∧ε 10=.v (.int .i64 (heldN x.a))∧ε 11=.v (.int .i64 (heldN x.b))∧ε 12=.v (.int .i64 (heldN x.c)))∧σ=[.obj 0 (aIx x),.obj 0 (aRg rs),.obj 0 (aRg z8),.obj 0 (aEf ef0)]) ?_ ?_
 ·intro N X R hN
  push_cast (maxSteps:=999999) (disch:=omega)[hρ,g1,g2,g3]
  refine Q3 (QG x.a) ?_
  rintro a rfl
  push_cast (maxSteps:=999999) (disch:=omega)[hρ,aInt]
  refine ⟨Q8 (by push_cast (maxSteps:=999999) (disch:=omega)[hρ,g3,QC]),Q8 (by push_cast (maxSteps:=999999) (disch:=omega)[hρ,g2,QC]),?_⟩
  refine Q3 (QG x.b) ?_
  rintro a rfl
  push_cast (maxSteps:=999999) (disch:=omega)[hρ,aInt]
  refine ⟨Q8 (by push_cast (maxSteps:=999999) (disch:=omega)[hρ,g3,QC]),?_⟩
  refine Q3 (QG x.c) ?_
  rintro a rfl
  push_cast (maxSteps:=999999) (disch:=omega)[hρ,aInt]
  exact hN _ _ ⟨by push_cast (maxSteps:=999999) (disch:=omega)[hρ],rfl⟩
 clear hρ ε
 rintro ε σ ⟨hρ,rfl⟩
 refine Q1 (fun ε σ=>(ε 1=.v (.int .i64 pc)∧ε 3=.ref 0 0 0∧ε 5=.ref 1 0 0∧ε 7=.ref 2 0 0∧ε 8=.ref 3 0 0∧ε 10=.v (.int .i64 (heldN x.a))∧ε 11=.v (.int .i64 (heldN x.b))∧ε 12=.v (.int .i64 (heldN x.c))∧ε 13=.ref 4 0 0)∧σ=[.obj 0 (aIx x),.obj 0 (aRg rs),.obj 0 (aRg z8),.obj 0 (aEf ef0),.obj 0 (aRg rs)]) ?_ ?_
 ·intro N X R hN
  push_cast (maxSteps:=999999) (disch:=omega)[hρ,cells8]
  refine Qb ?_
  push_cast (maxSteps:=999999) (disch:=omega)[hρ]
  refine Q5 (cs:=aRg z8) rfl rfl rfl (by decide) ?_
  rw[hset8]
  push_cast (maxSteps:=999999) (disch:=omega)[hρ]
  exact hN _ _ ⟨by push_cast (maxSteps:=999999) (disch:=omega)[hρ],rfl⟩
 clear hρ ε
 rintro ε σ ⟨hρ,rfl⟩
 refine Q1 (fun ε σ=>(ε 1=.v (.int .i64 pc)∧ε 3=.ref 0 0 0∧ε 5=.ref 1 0 0∧ε 7=.ref 2 0 0∧ε 8=.ref 3 0 0∧ε 10=.v (.int .i64 (heldN x.a))∧ε 11=.v (.int .i64 (heldN x.b))∧ε 12=.v (.int .i64 (heldN x.c))∧ε 13=.ref 4 0 0∧ε 14=.ref 5 0 0)∧σ=[.obj 0 (aIx x),.obj 0 (aRg rs),.obj 0 (aRg z8),.obj 0 (aEf ef0),.obj 0 (aRg rs),.obj 0 (aEf ef0)]) ?_ ?_
 ·intro N X R hN
  have hb0:fillA [AV.v (.int .i64 0),AV.v (.int .i64 0),AV.v (.int .i64 0),AV.v (.int .i64 0),AV.v (.int .i64 0)] [] []=some (aEf ef0):=by simp[fillA,aEf,ef0]
  push_cast (maxSteps:=999999) (disch:=omega)[hρ,hb0]
  refine Qb ?_
  push_cast (maxSteps:=999999) (disch:=omega)[hρ]
  refine Q5 (cs:=aEf ef0) rfl rfl rfl (by decide) ?_
  rw[hset5]
  push_cast (maxSteps:=999999) (disch:=omega)[hρ]
  exact hN _ _ ⟨by push_cast (maxSteps:=999999) (disch:=omega)[hρ],rfl⟩
 clear hρ ε
 rintro ε σ ⟨hρ,rfl⟩
 refine Qg (fun ε σ=>((ε 1=.v (.int .i64 pc)∧ε 7=.ref 2 0 0∧ε 8=.ref 3 0 0∧ε 13=.ref 4 0 0∧ε 14=.ref 5 0 0)∧σ=[.obj 0 (aIx x),.obj 0 (aRg rs),.obj 0 (aRg z8),.obj 0 (aEf ef0),.obj 0 (aRg rs),.obj 0 (aEf ef0)])∧doF x pc rs=(IntKind.i64.wrap (pc+1),rs,ef0,0)) ?_ ?_
 ·intro N hN
  by_cases c0:x.op=0
  ·have hD:doF x pc rs=(IntKind.i64.wrap (pc+1),rs,(⟨12,0,0,0,0⟩:Ef),0):=by simp[doF,ofE,knownB,c0]
   have hb:fillA [AV.v (.int .i64 0),AV.v (.int .i64 0),AV.v (.int .i64 0),AV.v (.int .i64 0),AV.v (.int .i64 0)] [(0,1)] [AV.v (.int .i64 (12))]=some (aEf (⟨12,0,0,0,0⟩:Ef)):=by simp[fillA,AV.cells,Value.cells,setAtA,aEf]
   push_cast (maxSteps:=999999) (disch:=omega)[hρ,g0,c0,cells8,hb]
   refine Q5 (cs:=aRg z8) rfl rfl rfl (by decide) ?_
   rw[hset8]
   push_cast (maxSteps:=999999) (disch:=omega)[hρ]
   refine Q5 (cs:=aEf ef0) rfl rfl rfl (by decide) ?_
   rw[hset5]
   push_cast (maxSteps:=999999) (disch:=omega)[hρ,cells8,cells5]
   exact fin _ _ hD
  by_cases c1:x.op=1
  ·have hD:doF x pc rs=(IntKind.i64.wrap (pc+1),setR rs x.a x.b,ef0,0):=by simp[doF,ofE,knownB,c1]
   push_cast (maxSteps:=999999) (disch:=omega)[hρ,g0,c1,g2]
   refine Q6 rfl rfl rfl hlen ?_
   rw[hse]
   push_cast (maxSteps:=999999) (disch:=omega)[hρ,cells8,cells5]
   refine Q5 (cs:=aRg z8) rfl rfl rfl (by decide) ?_
   rw[hset8]
   push_cast (maxSteps:=999999) (disch:=omega)[hρ]
   refine ⟨Q8 (by push_cast (maxSteps:=999999) (disch:=omega)[hρ,cells5,ex_Ef]),?_⟩
   refine Q5 (cs:=aEf ef0) rfl rfl rfl (by decide) ?_
   rw[hset5]
   push_cast (maxSteps:=999999) (disch:=omega)[hρ,cells8,cells5]
   exact fin _ _ hD
  by_cases c2:x.op=2
  ·have hD:doF x pc rs=(IntKind.i64.wrap (pc+1),setR rs x.a (rg rs x.b),ef0,0):=by simp[doF,ofE,knownB,c2]
   push_cast (maxSteps:=999999) (disch:=omega)[hρ,g0,c2,rb]
   refine Q6 rfl rfl rfl hlen ?_
   rw[hse]
   push_cast (maxSteps:=999999) (disch:=omega)[hρ,cells8,cells5]
   refine Q5 (cs:=aRg z8) rfl rfl rfl (by decide) ?_
   rw[hset8]
   push_cast (maxSteps:=999999) (disch:=omega)[hρ]
   refine ⟨Q8 (by push_cast (maxSteps:=999999) (disch:=omega)[hρ,cells5,ex_Ef]),?_⟩
   refine Q5 (cs:=aEf ef0) rfl rfl rfl (by decide) ?_
   rw[hset5]
   push_cast (maxSteps:=999999) (disch:=omega)[hρ,cells8,cells5]
   exact fin _ _ hD
  by_cases ck:3≤x.op∧x.op≤12
  ·have hkn:knownB x.op=true:=decide_eq_true ck
   have hDo:=ref01_Do_a x.op (rg rs x.b) (rg rs x.c) ck (rg_64 h64 _) (rg_64 h64 _)
   have e1:doF x pc rs=if (wrapD x.op (rg rs x.b) (rg rs x.c)).2≠0 then (pc,rs,ef0,(wrapD x.op (rg rs x.b) (rg rs x.c)).2) else (IntKind.i64.wrap (pc+1),setR rs x.a (wrapD x.op (rg rs x.b) (rg rs x.c)).1,ofE x rs,0):=by unfold doF;rw[if_neg c1,if_neg c2,if_pos hkn]
   have e2:ofE x rs=ef0:=by unfold ofE;simp only;rw[if_neg (by omega),if_neg (by omega),if_neg (by omega),if_neg (by omega),if_neg (by omega),if_neg (by omega),if_neg (by omega),if_neg (by omega),if_neg (by omega),if_neg (by omega),if_neg (by omega),if_neg (by omega)]
   rw[e2] at e1
   generalize wrapD x.op (rg rs x.b) (rg rs x.c)=wd at e1 hDo
   have tail:∀(hρ:ε 1=.v (.int .i64 pc)∧ε 3=.ref 0 0 0∧ε 5=.ref 1 0 0∧ε 7=.ref 2 0 0∧ε 8=.ref 3 0 0∧ε 10=.v (.int .i64 (heldN x.a))∧ε 11=.v (.int .i64 (heldN x.b))∧ε 12=.v (.int .i64 (heldN x.c))∧ε 13=.ref 4 0 0∧ε 14=.ref 5 0 0),True:=fun _=>trivial
   have hcs:x.op=3∨x.op=4∨x.op=5∨x.op=6∨x.op=7∨x.op=8∨x.op=9∨x.op=10∨x.op=11∨x.op=12:=by omega
   by_cases c4:wd.2≠0
   ·rw[if_pos c4] at e1
    have c4':¬wd.2=0:=c4
    rcases hcs with c|c|c|c|c|c|c|c|c|c <;>
    (rw[c] at hDo;push_cast (maxSteps:=999999) (disch:=omega)[hρ,g0,c,rb,rc];refine Q3 hDo ?_;rintro a rfl;push_cast (maxSteps:=999999) (disch:=omega)[hρ,aInt,c4',cells8,cells5];refine Q5 (cs:=aRg z8) rfl rfl rfl (by decide) ?_;rw[hset8];push_cast (maxSteps:=999999) (disch:=omega)[hρ];refine ⟨Q8 (by push_cast (maxSteps:=999999) (disch:=omega)[hρ,cells5,ex_Ef]),?_⟩;refine Q5 (cs:=aEf ef0) rfl rfl rfl (by decide) ?_;rw[hset5];push_cast (maxSteps:=999999) (disch:=omega)[hρ,cells8,cells5];exact fin _ _ e1)
   ·rw[if_neg c4] at e1
    have c4':wd.2=0:=by simpa using c4
    rcases hcs with c|c|c|c|c|c|c|c|c|c <;>
    (rw[c] at hDo;push_cast (maxSteps:=999999) (disch:=omega)[hρ,g0,c,rb,rc];refine Q3 hDo ?_;rintro a rfl;push_cast (maxSteps:=999999) (disch:=omega)[hρ,aInt,c4'];refine Q6 rfl rfl rfl hlen ?_;rw[hse];push_cast (maxSteps:=999999) (disch:=omega)[hρ,cells8,cells5];refine Q5 (cs:=aRg z8) rfl rfl rfl (by decide) ?_;rw[hset8];push_cast (maxSteps:=999999) (disch:=omega)[hρ];refine ⟨Q8 (by push_cast (maxSteps:=999999) (disch:=omega)[hρ,cells5,ex_Ef]),?_⟩;refine Q5 (cs:=aEf ef0) rfl rfl rfl (by decide) ?_;rw[hset5];push_cast (maxSteps:=999999) (disch:=omega)[hρ,cells8,cells5];exact fin _ _ e1)
  by_cases c13:x.op=13
  ·have hD:doF x pc rs=(IntKind.i64.wrap (pc+1),rs,(⟨1,rg rs x.b,0,0,heldN x.a⟩:Ef),0):=by simp[doF,ofE,knownB,c13]
   have hb:fillA [AV.v (.int .i64 0),AV.v (.int .i64 0),AV.v (.int .i64 0),AV.v (.int .i64 0),AV.v (.int .i64 0)] [(0,1),(1,1),(2,1),(3,1),(4,1)] [AV.v (.int .i64 (1)),AV.v (.int .i64 (rg rs x.b)),AV.v (.int .i64 (0)),AV.v (.int .i64 (0)),AV.v (.int .i64 (heldN x.a))]=some (aEf (⟨1,rg rs x.b,0,0,heldN x.a⟩:Ef)):=by simp[fillA,AV.cells,Value.cells,setAtA,aEf]
   push_cast (maxSteps:=999999) (disch:=omega)[hρ,g0,c13,cells8,hb,rb]
   refine Q5 (cs:=aRg z8) rfl rfl rfl (by decide) ?_
   rw[hset8]
   push_cast (maxSteps:=999999) (disch:=omega)[hρ]
   refine ⟨Q8 (by push_cast (maxSteps:=999999) (disch:=omega)[hρ,rb,QC]),?_⟩
   refine Q5 (cs:=aEf ef0) rfl rfl rfl (by decide) ?_
   rw[hset5]
   push_cast (maxSteps:=999999) (disch:=omega)[hρ,cells8,cells5]
   exact fin _ _ hD
  by_cases c14:x.op=14
  ·have hD:doF x pc rs=(IntKind.i64.wrap (pc+1),rs,(⟨2,rg rs x.a,rg rs x.b,0,0⟩:Ef),0):=by simp[doF,ofE,knownB,c14]
   have hb:fillA [AV.v (.int .i64 0),AV.v (.int .i64 0),AV.v (.int .i64 0),AV.v (.int .i64 0),AV.v (.int .i64 0)] [(0,1),(1,1),(2,1),(3,1),(4,1)] [AV.v (.int .i64 (2)),AV.v (.int .i64 (rg rs x.a)),AV.v (.int .i64 (rg rs x.b)),AV.v (.int .i64 (0)),AV.v (.int .i64 (0))]=some (aEf (⟨2,rg rs x.a,rg rs x.b,0,0⟩:Ef)):=by simp[fillA,AV.cells,Value.cells,setAtA,aEf]
   push_cast (maxSteps:=999999) (disch:=omega)[hρ,g0,c14,cells8,hb,ra,rb]
   refine Q5 (cs:=aRg z8) rfl rfl rfl (by decide) ?_
   rw[hset8]
   push_cast (maxSteps:=999999) (disch:=omega)[hρ]
   refine ⟨Q8 (by push_cast (maxSteps:=999999) (disch:=omega)[hρ,rb,QC]),Q8 (by push_cast (maxSteps:=999999) (disch:=omega)[hρ,ra,QC]),?_⟩
   refine Q5 (cs:=aEf ef0) rfl rfl rfl (by decide) ?_
   rw[hset5]
   push_cast (maxSteps:=999999) (disch:=omega)[hρ,cells8,cells5]
   exact fin _ _ hD
  by_cases c15:x.op=15
  ·have hD:doF x pc rs=(IntKind.i64.wrap (pc+1),rs,(⟨3,rg rs x.b,rg rs x.c,0,heldN x.a⟩:Ef),0):=by simp[doF,ofE,knownB,c15]
   have hb:fillA [AV.v (.int .i64 0),AV.v (.int .i64 0),AV.v (.int .i64 0),AV.v (.int .i64 0),AV.v (.int .i64 0)] [(0,1),(1,1),(2,1),(3,1),(4,1)] [AV.v (.int .i64 (3)),AV.v (.int .i64 (rg rs x.b)),AV.v (.int .i64 (rg rs x.c)),AV.v (.int .i64 (0)),AV.v (.int .i64 (heldN x.a))]=some (aEf (⟨3,rg rs x.b,rg rs x.c,0,heldN x.a⟩:Ef)):=by simp[fillA,AV.cells,Value.cells,setAtA,aEf]
   push_cast (maxSteps:=999999) (disch:=omega)[hρ,g0,c15,cells8,hb,rb,rc]
   refine Q5 (cs:=aRg z8) rfl rfl rfl (by decide) ?_
   rw[hset8]
   push_cast (maxSteps:=999999) (disch:=omega)[hρ]
   refine ⟨Q8 (by push_cast (maxSteps:=999999) (disch:=omega)[hρ,rc,QC]),Q8 (by push_cast (maxSteps:=999999) (disch:=omega)[hρ,rb,QC]),?_⟩
   refine Q5 (cs:=aEf ef0) rfl rfl rfl (by decide) ?_
   rw[hset5]
   push_cast (maxSteps:=999999) (disch:=omega)[hρ,cells8,cells5]
   exact fin _ _ hD
  by_cases c16:x.op=16
  ·have hD:doF x pc rs=(IntKind.i64.wrap (pc+1),rs,(⟨4,rg rs x.b,rg rs x.a,rg rs x.c,heldN x.a⟩:Ef),0):=by simp[doF,ofE,knownB,c16]
   have hb:fillA [AV.v (.int .i64 0),AV.v (.int .i64 0),AV.v (.int .i64 0),AV.v (.int .i64 0),AV.v (.int .i64 0)] [(0,1),(1,1),(2,1),(3,1),(4,1)] [AV.v (.int .i64 (4)),AV.v (.int .i64 (rg rs x.b)),AV.v (.int .i64 (rg rs x.a)),AV.v (.int .i64 (rg rs x.c)),AV.v (.int .i64 (heldN x.a))]=some (aEf (⟨4,rg rs x.b,rg rs x.a,rg rs x.c,heldN x.a⟩:Ef)):=by simp[fillA,AV.cells,Value.cells,setAtA,aEf]
   push_cast (maxSteps:=999999) (disch:=omega)[hρ,g0,c16,cells8,hb,ra,rb,rc]
   refine Q5 (cs:=aRg z8) rfl rfl rfl (by decide) ?_
   rw[hset8]
   push_cast (maxSteps:=999999) (disch:=omega)[hρ]
   refine ⟨Q8 (by push_cast (maxSteps:=999999) (disch:=omega)[hρ,rc,QC]),Q8 (by push_cast (maxSteps:=999999) (disch:=omega)[hρ,ra,QC]),Q8 (by push_cast (maxSteps:=999999) (disch:=omega)[hρ,rb,QC]),?_⟩
   refine Q5 (cs:=aEf ef0) rfl rfl rfl (by decide) ?_
   rw[hset5]
   push_cast (maxSteps:=999999) (disch:=omega)[hρ,cells8,cells5]
   exact fin _ _ hD
  by_cases c17:x.op=17
  ·have hD:doF x pc rs=(IntKind.i64.wrap (pc+1),rs,(⟨5,0,rg rs x.a,0,0⟩:Ef),0):=by simp[doF,ofE,knownB,c17]
   have hb:fillA [AV.v (.int .i64 0),AV.v (.int .i64 0),AV.v (.int .i64 0),AV.v (.int .i64 0),AV.v (.int .i64 0)] [(0,1),(2,1)] [AV.v (.int .i64 (5)),AV.v (.int .i64 (rg rs x.a))]=some (aEf (⟨5,0,rg rs x.a,0,0⟩:Ef)):=by simp[fillA,AV.cells,Value.cells,setAtA,aEf]
   push_cast (maxSteps:=999999) (disch:=omega)[hρ,g0,c17,cells8,hb,ra]
   refine Q5 (cs:=aRg z8) rfl rfl rfl (by decide) ?_
   rw[hset8]
   push_cast (maxSteps:=999999) (disch:=omega)[hρ]
   refine ⟨Q8 (by push_cast (maxSteps:=999999) (disch:=omega)[hρ,ra,QC]),?_⟩
   refine Q5 (cs:=aEf ef0) rfl rfl rfl (by decide) ?_
   rw[hset5]
   push_cast (maxSteps:=999999) (disch:=omega)[hρ,cells8,cells5]
   exact fin _ _ hD
  by_cases c18:x.op=18
  ·have hD:doF x pc rs=(x.a,rs,ef0,0):=by simp[doF,ofE,knownB,c18]
   push_cast (maxSteps:=999999) (disch:=omega)[hρ,g0,c18,g1,cells8,cells5]
   refine Q5 (cs:=aRg z8) rfl rfl rfl (by decide) ?_
   rw[hset8]
   push_cast (maxSteps:=999999) (disch:=omega)[hρ]
   refine ⟨Q8 (by push_cast (maxSteps:=999999) (disch:=omega)[hρ,cells5,ex_Ef]),?_⟩
   refine Q5 (cs:=aEf ef0) rfl rfl rfl (by decide) ?_
   rw[hset5]
   push_cast (maxSteps:=999999) (disch:=omega)[hρ,cells8,cells5]
   exact fin _ _ hD
  by_cases c19:x.op=19
  ·by_cases cz:rg rs x.a=0
   ·have hD:doF x pc rs=(x.b,rs,ef0,0):=by simp[doF,ofE,knownB,c19,cz]
    push_cast (maxSteps:=999999) (disch:=omega)[hρ,g0,c19,ra,cz,g2,cells8,cells5]
    refine Q5 (cs:=aRg z8) rfl rfl rfl (by decide) ?_
    rw[hset8]
    push_cast (maxSteps:=999999) (disch:=omega)[hρ]
    refine ⟨Q8 (by push_cast (maxSteps:=999999) (disch:=omega)[hρ,cells5,ex_Ef]),?_⟩
    refine Q5 (cs:=aEf ef0) rfl rfl rfl (by decide) ?_
    rw[hset5]
    push_cast (maxSteps:=999999) (disch:=omega)[hρ,cells8,cells5]
    exact fin _ _ hD
   ·have hD:doF x pc rs=(IntKind.i64.wrap (pc+1),rs,ef0,0):=by simp[doF,ofE,knownB,c19,cz]
    push_cast (maxSteps:=999999) (disch:=omega)[hρ,g0,c19,ra,cz,cells8,cells5]
    refine Q5 (cs:=aRg z8) rfl rfl rfl (by decide) ?_
    rw[hset8]
    push_cast (maxSteps:=999999) (disch:=omega)[hρ]
    refine ⟨Q8 (by push_cast (maxSteps:=999999) (disch:=omega)[hρ,cells5,ex_Ef]),?_⟩
    refine Q5 (cs:=aEf ef0) rfl rfl rfl (by decide) ?_
    rw[hset5]
    push_cast (maxSteps:=999999) (disch:=omega)[hρ,cells8,cells5]
    exact fin _ _ hD
  by_cases c20:x.op=20
  ·have hD:doF x pc rs=(IntKind.i64.wrap (pc+1),rs,(⟨6,0,x.a,0,0⟩:Ef),0):=by simp[doF,ofE,knownB,c20]
   have hb:fillA [AV.v (.int .i64 0),AV.v (.int .i64 0),AV.v (.int .i64 0),AV.v (.int .i64 0),AV.v (.int .i64 0)] [(0,1),(2,1)] [AV.v (.int .i64 (6)),AV.v (.int .i64 (x.a))]=some (aEf (⟨6,0,x.a,0,0⟩:Ef)):=by simp[fillA,AV.cells,Value.cells,setAtA,aEf]
   push_cast (maxSteps:=999999) (disch:=omega)[hρ,g0,c20,cells8,hb,g1]
   refine Q5 (cs:=aRg z8) rfl rfl rfl (by decide) ?_
   rw[hset8]
   push_cast (maxSteps:=999999) (disch:=omega)[hρ]
   refine ⟨Q8 (by push_cast (maxSteps:=999999) (disch:=omega)[hρ,g1,QC]),?_⟩
   refine Q5 (cs:=aEf ef0) rfl rfl rfl (by decide) ?_
   rw[hset5]
   push_cast (maxSteps:=999999) (disch:=omega)[hρ,cells8,cells5]
   exact fin _ _ hD
  by_cases c21:x.op=21
  ·have hD:doF x pc rs=(IntKind.i64.wrap (pc+1),rs,(⟨7,0,0,0,0⟩:Ef),0):=by simp[doF,ofE,knownB,c21]
   have hb:fillA [AV.v (.int .i64 0),AV.v (.int .i64 0),AV.v (.int .i64 0),AV.v (.int .i64 0),AV.v (.int .i64 0)] [(0,1)] [AV.v (.int .i64 (7))]=some (aEf (⟨7,0,0,0,0⟩:Ef)):=by simp[fillA,AV.cells,Value.cells,setAtA,aEf]
   push_cast (maxSteps:=999999) (disch:=omega)[hρ,g0,c21,cells8,hb]
   refine Q5 (cs:=aRg z8) rfl rfl rfl (by decide) ?_
   rw[hset8]
   push_cast (maxSteps:=999999) (disch:=omega)[hρ]
   refine Q5 (cs:=aEf ef0) rfl rfl rfl (by decide) ?_
   rw[hset5]
   push_cast (maxSteps:=999999) (disch:=omega)[hρ,cells8,cells5]
   exact fin _ _ hD
  by_cases c22:x.op=22
  ·have hD:doF x pc rs=(IntKind.i64.wrap (pc+1),rs,(⟨8,0,x.a,0,0⟩:Ef),0):=by simp[doF,ofE,knownB,c22]
   have hb:fillA [AV.v (.int .i64 0),AV.v (.int .i64 0),AV.v (.int .i64 0),AV.v (.int .i64 0),AV.v (.int .i64 0)] [(0,1),(2,1)] [AV.v (.int .i64 (8)),AV.v (.int .i64 (x.a))]=some (aEf (⟨8,0,x.a,0,0⟩:Ef)):=by simp[fillA,AV.cells,Value.cells,setAtA,aEf]
   push_cast (maxSteps:=999999) (disch:=omega)[hρ,g0,c22,cells8,hb,g1]
   refine Q5 (cs:=aRg z8) rfl rfl rfl (by decide) ?_
   rw[hset8]
   push_cast (maxSteps:=999999) (disch:=omega)[hρ]
   refine ⟨Q8 (by push_cast (maxSteps:=999999) (disch:=omega)[hρ,g1,QC]),?_⟩
   refine Q5 (cs:=aEf ef0) rfl rfl rfl (by decide) ?_
   rw[hset5]
   push_cast (maxSteps:=999999) (disch:=omega)[hρ,cells8,cells5]
   exact fin _ _ hD
  by_cases c23:x.op=23
  ·have hD:doF x pc rs=(IntKind.i64.wrap (pc+1),rs,(⟨9,0,rg rs x.a,0,0⟩:Ef),0):=by simp[doF,ofE,knownB,c23]
   have hb:fillA [AV.v (.int .i64 0),AV.v (.int .i64 0),AV.v (.int .i64 0),AV.v (.int .i64 0),AV.v (.int .i64 0)] [(0,1),(2,1)] [AV.v (.int .i64 (9)),AV.v (.int .i64 (rg rs x.a))]=some (aEf (⟨9,0,rg rs x.a,0,0⟩:Ef)):=by simp[fillA,AV.cells,Value.cells,setAtA,aEf]
   push_cast (maxSteps:=999999) (disch:=omega)[hρ,g0,c23,cells8,hb,ra]
   refine Q5 (cs:=aRg z8) rfl rfl rfl (by decide) ?_
   rw[hset8]
   push_cast (maxSteps:=999999) (disch:=omega)[hρ]
   refine ⟨Q8 (by push_cast (maxSteps:=999999) (disch:=omega)[hρ,ra,QC]),?_⟩
   refine Q5 (cs:=aEf ef0) rfl rfl rfl (by decide) ?_
   rw[hset5]
   push_cast (maxSteps:=999999) (disch:=omega)[hρ,cells8,cells5]
   exact fin _ _ hD
  by_cases c24:x.op=24
  ·have hD:doF x pc rs=(IntKind.i64.wrap (pc+1),rs,(⟨10,0,rg rs x.a,0,0⟩:Ef),0):=by simp[doF,ofE,knownB,c24]
   have hb:fillA [AV.v (.int .i64 0),AV.v (.int .i64 0),AV.v (.int .i64 0),AV.v (.int .i64 0),AV.v (.int .i64 0)] [(0,1),(2,1)] [AV.v (.int .i64 (10)),AV.v (.int .i64 (rg rs x.a))]=some (aEf (⟨10,0,rg rs x.a,0,0⟩:Ef)):=by simp[fillA,AV.cells,Value.cells,setAtA,aEf]
   push_cast (maxSteps:=999999) (disch:=omega)[hρ,g0,c24,cells8,hb,ra]
   refine Q5 (cs:=aRg z8) rfl rfl rfl (by decide) ?_
   rw[hset8]
   push_cast (maxSteps:=999999) (disch:=omega)[hρ]
   refine ⟨Q8 (by push_cast (maxSteps:=999999) (disch:=omega)[hρ,ra,QC]),?_⟩
   refine Q5 (cs:=aEf ef0) rfl rfl rfl (by decide) ?_
   rw[hset5]
   push_cast (maxSteps:=999999) (disch:=omega)[hρ,cells8,cells5]
   exact fin _ _ hD
  by_cases c25:x.op=25
  ·have hD:doF x pc rs=(IntKind.i64.wrap (pc+1),rs,(⟨11,0,0,0,0⟩:Ef),0):=by simp[doF,ofE,knownB,c25]
   have hb:fillA [AV.v (.int .i64 0),AV.v (.int .i64 0),AV.v (.int .i64 0),AV.v (.int .i64 0),AV.v (.int .i64 0)] [(0,1)] [AV.v (.int .i64 (11))]=some (aEf (⟨11,0,0,0,0⟩:Ef)):=by simp[fillA,AV.cells,Value.cells,setAtA,aEf]
   push_cast (maxSteps:=999999) (disch:=omega)[hρ,g0,c25,cells8,hb]
   refine Q5 (cs:=aRg z8) rfl rfl rfl (by decide) ?_
   rw[hset8]
   push_cast (maxSteps:=999999) (disch:=omega)[hρ]
   refine Q5 (cs:=aEf ef0) rfl rfl rfl (by decide) ?_
   rw[hset5]
   push_cast (maxSteps:=999999) (disch:=omega)[hρ,cells8,cells5]
   exact fin _ _ hD
  have c3:¬x.op=3:=by omega
  have c4:¬x.op=4:=by omega
  have c5:¬x.op=5:=by omega
  have c6:¬x.op=6:=by omega
  have c7:¬x.op=7:=by omega
  have c8:¬x.op=8:=by omega
  have c9:¬x.op=9:=by omega
  have c10:¬x.op=10:=by omega
  have c11:¬x.op=11:=by omega
  have c12:¬x.op=12:=by omega
  have hkn:¬(knownB x.op=true):=by unfold knownB;simp only[decide_eq_true_eq];exact ck
  have hof:ofE x rs=ef0:=by unfold ofE;simp only;rw[if_neg c13,if_neg c14,if_neg c15,if_neg c16,if_neg c17,if_neg c20,if_neg c21,if_neg c22,if_neg c23,if_neg c24,if_neg c25,if_neg c0]
  have hD:doF x pc rs=(IntKind.i64.wrap (pc+1),rs,ef0,0):=by unfold doF;rw[if_neg c1,if_neg c2,if_neg hkn,if_neg c18,if_neg (fun h=>c19 h.1),hof]
  push_cast (maxSteps:=999999) (disch:=omega)[hρ,g0,c0,c1,c2,c3,c4,c5,c6,c7,c8,c9,c10,c11,c12,c13,c14,c15,c16,c17,c18,c19,c20,c21,c22,c23,c24,c25]
  exact hN _ _ ⟨⟨by push_cast (maxSteps:=999999) (disch:=omega)[hρ],rfl⟩,hD⟩
 clear hρ ε
 rintro ε σ ⟨⟨hρ,rfl⟩,hD⟩
 push_cast (maxSteps:=999999) (disch:=omega)[hρ,cells8,cells5]
 refine Q5 (cs:=aRg z8) rfl rfl rfl (by decide) ?_
 rw[hset8]
 push_cast (maxSteps:=999999) (disch:=omega)[hρ]
 refine ⟨Q8 (by push_cast (maxSteps:=999999) (disch:=omega)[hρ,cells5,ex_Ef]),?_⟩
 refine Q5 (cs:=aEf ef0) rfl rfl rfl (by decide) ?_
 rw[hset5]
 push_cast (maxSteps:=999999) (disch:=omega)[hρ,cells8,cells5]
 exact fin _ _ hD
set_option maxHeartbeats 8000000 in
theorem ref08_Took_a (rs:List Int) (e:Ef) (got:Int) (hr:rs.length=8):FnP Tryz.prog 79 [.agg (aRg rs),.agg (aEf e),aInt got] fun a=>a=.agg (aRg (tookR rs e got)):=by
 refine Qh Z99 mixed rfl (by simp[AV.pureL,AV.pure,Z54,Q84,aInt]) ?_
 simp only[Q95,aInt]
 have hae:(AV.agg (aEf e)).cells=aEf e:=rfl
 have har:(AV.agg (aRg rs)).cells=aRg rs:=rfl
 have g0:(aEf e)[0]?=some (.v (.int .i64 e.k)):=rfl
 have g2:(aEf e)[2]?=some (.v (.int .i64 e.v)):=rfl
 have g4:(aEf e)[4]?=some (.v (.int .i64 e.r)):=rfl
 obtain ⟨hh0,hh1⟩:=Z97 e.r
 have hse:=fun v=>rg_set hr e.r v
 have hlen:(heldN e.r).toNat < (aRg rs).length:=Z96 e.r
 have hset8:∀r:List Int,setAtA (aRg z8) 0 (aRg r)=aRg r:=fun r=>rfl
 have fin:∀(r:List Int) (σ:Kx.St),tookR rs e got=r→∃is,((AV.agg (aRg r)).res (Go.Kx.freeze is σ)).pure=true∧(AV.agg (aRg r)).res (Go.Kx.freeze is σ)=.agg (aRg (tookR rs e got)):=fun r σ h=>by rw[h];exact ZA [] (by simp[AV.res,aRg_res]) (by simp[AV.pure,Q84])
 refine Q1 (fun ε σ=>(ε 2=.v (.int .i64 got)∧ε 3=.ref 0 0 0∧ε 4=.ref 1 0 0∧ε 6=.ref 2 0 0)∧σ=[.obj 0 (aRg rs),.obj 0 (aEf e),.obj 0 (aRg z8)]) ?_ ?_
 ·intro N X R hN
  push_cast (disch:=omega)
  refine Qd ?_
  push_cast (disch:=omega)[har]
  refine Qd ?_
  push_cast (disch:=omega)[hae]
  refine Qb ?_
  push_cast (disch:=omega)
  exact hN _ _ ⟨by push_cast (disch:=omega),rfl⟩
 rintro ε σ ⟨hρ,rfl⟩
 refine Q1 (fun ε σ=>(ε 2=.v (.int .i64 got)∧ε 3=.ref 0 0 0∧ε 4=.ref 1 0 0∧ε 6=.ref 2 0 0)∧σ=[.obj 0 (aRg (if e.k=1∨e.k=3 then setR rs e.r got else rs)),.obj 0 (aEf e),.obj 0 (aRg z8)]) ?_ ?_
 ·intro N X R hN
  by_cases c1:e.k=1
  ·rw[if_pos (.inl c1)] at hN
   push_cast (disch:=omega)[hρ,g0,c1,g4]
   refine Q3 (QG e.r) ?_
   rintro a rfl
   push_cast (disch:=omega)[hρ,aInt]
   refine Q6 rfl rfl rfl hlen ?_
   rw[hse]
   push_cast (disch:=omega)[hρ]
   exact hN _ _ ⟨by push_cast (disch:=omega)[hρ],rfl⟩
  by_cases c3:e.k=3
  ·rw[if_pos (.inr c3)] at hN
   push_cast (disch:=omega)[hρ,g0,c1,c3,g4]
   refine Q3 (QG e.r) ?_
   rintro a rfl
   push_cast (disch:=omega)[hρ,aInt]
   refine Q6 rfl rfl rfl hlen ?_
   rw[hse]
   push_cast (disch:=omega)[hρ]
   exact hN _ _ ⟨by push_cast (disch:=omega)[hρ],rfl⟩
  ·rw[if_neg (by rintro (h|h);exact c1 h;exact c3 h)] at hN
   push_cast (disch:=omega)[hρ,g0,c1,c3]
   exact hN _ _ ⟨by push_cast (disch:=omega)[hρ],rfl⟩
 clear hρ ε
 rintro ε σ ⟨hρ,rfl⟩
 refine Q1 (fun ε σ=>(ε 3=.ref 0 0 0∧ε 6=.ref 2 0 0)∧σ=[.obj 0 (aRg (tookR rs e got)),.obj 0 (aEf e),.obj 0 (aRg z8)]) ?_ ?_
 ·intro N X R hN
  by_cases c4:e.k=4
  ·have ht:tookR rs e got=setR rs e.r (if got=e.v then 1 else 0):=by unfold tookR;rw[if_pos c4]
   rw[ht] at hN
   rw[if_neg (by omega)]
   have hr2:(setR rs e.r 0).length=8:=by rw[Z53];exact hr
   have hse2:=fun v=>rg_set hr2 e.r v
   have hss:setR (setR rs e.r 0) e.r 1=setR rs e.r 1:=by unfold setR;rw[List.set_set]
   have hlen2:(heldN e.r).toNat < (aRg (setR rs e.r 0)).length:=Z96 e.r
   by_cases cg:got=e.v
   ·rw[if_pos cg] at hN
    push_cast (disch:=omega)[hρ,g0,c4,g4]
    refine Q3 (QG e.r) ?_
    rintro a rfl
    push_cast (disch:=omega)[hρ,aInt]
    refine Q6 rfl rfl rfl hlen ?_
    rw[hse]
    push_cast (disch:=omega)[hρ,g2,cg,g4]
    refine Q3 (QG e.r) ?_
    rintro a rfl
    push_cast (disch:=omega)[hρ,aInt]
    refine Q6 rfl rfl rfl hlen2 ?_
    rw[hse2,hss]
    push_cast (disch:=omega)[hρ]
    exact hN _ _ ⟨by push_cast (disch:=omega)[hρ],rfl⟩
   ·rw[if_neg cg] at hN
    push_cast (disch:=omega)[hρ,g0,c4,g4]
    refine Q3 (QG e.r) ?_
    rintro a rfl
    push_cast (disch:=omega)[hρ,aInt]
    refine Q6 rfl rfl rfl hlen ?_
    rw[hse]
    push_cast (disch:=omega)[hρ,g2,cg]
    exact hN _ _ ⟨by push_cast (disch:=omega)[hρ],rfl⟩
  ·have ht:tookR rs e got=if e.k=1∨e.k=3 then setR rs e.r got else rs:=by unfold tookR;rw[if_neg c4]
   rw[ht] at hN
   push_cast (disch:=omega)[hρ,g0,c4]
   exact hN _ _ ⟨by push_cast (disch:=omega)[hρ],rfl⟩
 clear hρ ε
 rintro ε σ ⟨hρ,rfl⟩
 push_cast (disch:=omega)[hρ,cells8]
 refine Q5 (cs:=aRg z8) rfl rfl rfl (by decide) ?_
 rw[hset8]
 push_cast (disch:=omega)[hρ,cells8]
 exact fin _ _ rfl
end Go.Proofs.YtncdnegdlkmicaaGreat
