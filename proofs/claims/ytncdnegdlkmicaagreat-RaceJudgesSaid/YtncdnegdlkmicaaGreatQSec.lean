/- Serial: Do and Took: the walks. -/
import Derived.Test.YtncdnegdlkmicaaGreatQSeb
namespace Go.Proofs.YtncdnegdlkmicaaGreat
set_option linter.unusedVariables false
set_option linter.unusedSimpArgs false
open Go Go.Kx Go.Proofs
theorem ex_Rg (rs:List Int):(AV.agg (aRg rs)).exact=true:=rfl
theorem ex_Ef (e:Ef):(AV.agg (aEf e)).exact=true:=rfl
def aDo (r:Int×List Int×Ef×Int):AV:=.tup [aInt r.1,.agg (aRg r.2.1),.agg (aEf r.2.2.1),aInt r.2.2.2]
theorem aDo_pure (r:Int×List Int×Ef×Int):(aDo r).pure=true:=by simp[aDo,AV.pure,AV.pureL,Q84,Z54,aInt]
theorem aDo_res (σ:St) (r:Int×List Int×Ef×Int):(aDo r).res σ=aDo r:=by simp[aDo,AV.res,AV.resL,aRg_res,aEf_res,aInt]
set_option maxHeartbeats 16000000 in
theorem step_Do_a (x:Ix) (pc:Int) (rs:List Int) (hr:rs.length=8):FnP Tryz.prog 59 [.agg (aIx x),aInt pc,.agg (aRg rs)] fun a=>a=aDo (doF x pc rs):=by
 refine Qh K_step_Do mixed rfl (by simp[AV.pureL,AV.pure,Zo,Q84,aInt]) ?_
 simp only[S_step_Do,aInt]
 have hax:(AV.agg (aIx x)).cells=aIx x:=rfl
 have har:(AV.agg (aRg rs)).cells=aRg rs:=rfl
 have g0:(aIx x)[0]?=some (.v (.int .i64 x.op)):=rfl
 have g1:(aIx x)[1]?=some (.v (.int .i64 x.a)):=rfl
 have g2:(aIx x)[2]?=some (.v (.int .i64 x.b)):=rfl
 have g3:(aIx x)[3]?=some (.v (.int .i64 x.c)):=rfl
 have hh:=Z97 x.a
 have hhl:=Z96 x.a
 have hset8:∀r:List Int,setAtA (aRg z8) 0 (aRg r)=aRg r:=fun r=>rfl
 have hset5:∀e:Ef,setAtA (aEf ef0) 0 (aEf e)=aEf e:=fun e=>rfl
 have fin:∀(r:Int×List Int×Ef×Int) (σ:Kx.St),doF x pc rs=r→∃is,((aDo r).res (Go.Kx.freeze is σ)).pure=true∧(aDo r).res (Go.Kx.freeze is σ)=aDo (doF x pc rs):=fun r σ h=>by rw[h];exact ZA [] (aDo_res _ _) (aDo_pure _)
 refine Q1 (fun ε σ=>(ε 1=.v (.int .i64 pc)∧ε 3=.ref 0 0 0∧ε 5=.ref 1 0 0∧ε 7=.ref 2 0 0∧ε 8=.ref 3 0 0)∧σ=[.obj 0 (aIx x),.obj 0 (aRg rs),.obj 0 (aRg z8),.obj 0 (aEf ef0)]) ?_ ?_
 ·intro N X R hN
  push_cast (disch:=omega)
  refine Qd ?_
  push_cast (disch:=omega)[hax]
  refine Qd ?_
  push_cast (disch:=omega)[har]
  refine Qb ?_
  push_cast (disch:=omega)
  refine Qb ?_
  push_cast (disch:=omega)
  exact hN _ _ ⟨by push_cast (disch:=omega),rfl⟩
 rintro ε σ ⟨hρ,rfl⟩
 refine Q1 (fun ε σ=>(ε 1=.v (.int .i64 pc)∧ε 3=.ref 0 0 0∧ε 5=.ref 1 0 0∧ε 7=.ref 2 0 0∧ε 8=.ref 3 0 0∧ε 10=.ref 4 0 0∧ε 11=.v (.int .i64 (IntKind.i64.wrap (pc+1))))∧σ=[.obj 0 (aIx x),.obj 0 (aRg rs),.obj 0 (aRg z8),.obj 0 (aEf ef0),.obj 0 (aRg rs)]) ?_ ?_
 ·intro N X R hN
  push_cast (disch:=omega)[hρ,cells8]
  refine Qb ?_
  push_cast (disch:=omega)
  refine Q5 (cs:=aRg z8) rfl rfl rfl (by decide) ?_
  rw[hset8]
  push_cast (disch:=omega)
  exact hN _ _ ⟨by push_cast (disch:=omega)[hρ],rfl⟩
 clear hρ ε
 rintro ε σ ⟨hρ,rfl⟩
 refine Qg (fun ε σ=>∃nx rs',(ε 3=.ref 0 0 0∧ε 5=.ref 1 0 0∧ε 7=.ref 2 0 0∧ε 8=.ref 3 0 0∧ε 10=.ref 4 0 0∧ε 11=.v (.int .i64 nx))∧σ=[.obj 0 (aIx x),.obj 0 (aRg rs),.obj 0 (aRg z8),.obj 0 (aEf ef0),.obj 0 (aRg rs')]∧doF x pc rs=(nx,rs',ofE x rs,0)) ?_ ?_
 ·intro N hN
  refine QM fun X' _=>?_
  have hse:=fun v=>rg_set hr x.a v
  have hlen:(heldN x.a).toNat < (aRg rs).length:=hhl
  obtain ⟨hh0,hh1⟩:=hh
  by_cases c1:x.op=1
  ·push_cast (disch:=omega)[hρ,g0,c1,g1,g2]
   refine Q3 (Qw x.a) ?_
   rintro a rfl
   push_cast (disch:=omega)[hρ,aInt]
   refine ⟨Q8 (by push_cast (disch:=omega)[hρ,g2,QC]),?_⟩
   refine Q6 rfl rfl rfl hlen ?_
   rw[hse]
   push_cast (disch:=omega)
   exact hN _ _ ⟨IntKind.i64.wrap (pc+1),_,by push_cast (disch:=omega)[hρ],rfl,by unfold doF;rw[if_pos c1]⟩
  by_cases c2:x.op=2
  ·push_cast (disch:=omega)[hρ,g0,c1,c2,g1,g2,cells8]
   refine Q3 (Qw x.a) ?_
   rintro a rfl
   push_cast (disch:=omega)[hρ,aInt]
   refine ⟨Q8 (by push_cast (disch:=omega)[hρ,g2,QC]),Q8 (by push_cast (disch:=omega)[hρ,cells8,ex_Rg]),?_⟩
   refine Q3 (Q92 rs x.b) ?_
   rintro a rfl
   push_cast (disch:=omega)[hρ,aInt]
   refine Q6 rfl rfl rfl hlen ?_
   rw[hse]
   push_cast (disch:=omega)
   exact hN _ _ ⟨IntKind.i64.wrap (pc+1),_,by push_cast (disch:=omega)[hρ],rfl,by unfold doF;rw[if_neg c1,if_pos c2]⟩
  by_cases c3:knownB x.op=true
  ·have e1:doF x pc rs=if (wrapD x.op (rg rs x.b) (rg rs x.c)).2≠0 then (pc,rs,ef0,(wrapD x.op (rg rs x.b) (rg rs x.c)).2) else (IntKind.i64.wrap (pc+1),setR rs x.a (wrapD x.op (rg rs x.b) (rg rs x.c)).1,ofE x rs,0):=by unfold doF;rw[if_neg c1,if_neg c2,if_pos c3]
   push_cast (disch:=omega)[hρ,g0,c1,c2]
   refine Q3 (Zr x.op) ?_
   rintro a rfl
   rw[c3]
   push_cast (disch:=omega)[hρ,aBool,g0,g2,g3,cells8]
   refine Q3 (Q92 rs x.b) ?_
   rintro a rfl
   push_cast (disch:=omega)[hρ]
   refine ⟨Q8 (by push_cast (disch:=omega)[hρ,g3,QC]),Q8 (by push_cast (disch:=omega)[hρ,cells8,ex_Rg]),Q8 (by push_cast (disch:=omega)[hρ,g0,QC]),?_⟩
   refine Q3 (Q92 rs x.c) ?_
   rintro a rfl
   push_cast (disch:=omega)[hρ]
   refine ⟨Q8 (by push_cast (disch:=omega)[hρ,g0,QC]),?_⟩
   refine Q3 (wrap_Do_a x.op (rg rs x.b) (rg rs x.c)) ?_
   rintro a rfl
   generalize wrapD x.op (rg rs x.b) (rg rs x.c)=wd at e1
   by_cases c4:wd.2≠0
   ·rw[if_pos c4] at e1
    have c4':¬wd.2=0:=c4
    have hb0:fillA [AV.v (.int .i64 0),AV.v (.int .i64 0),AV.v (.int .i64 0),AV.v (.int .i64 0),AV.v (.int .i64 0)] [] []=some (aEf ef0):=by simp[fillA,aEf,ef0]
    push_cast (disch:=omega)[hρ,aInt,c4',cells8,hb0]
    refine Q5 (cs:=aRg z8) rfl rfl rfl (by decide) ?_
    rw[hset8]
    push_cast (disch:=omega)[hρ]
    refine Q5 (cs:=aEf ef0) rfl rfl rfl (by decide) ?_
    rw[hset5]
    push_cast (disch:=omega)[hρ,cells8,cells5]
    exact fin _ _ e1
   ·rw[if_neg c4] at e1
    have c4':wd.2=0:=by simpa using c4
    push_cast (disch:=omega)[hρ,aInt,c4',g1]
    refine Q3 (Qw x.a) ?_
    rintro a rfl
    push_cast (disch:=omega)[hρ,aInt]
    refine Q6 rfl rfl rfl hlen ?_
    rw[hse]
    push_cast (disch:=omega)
    exact hN _ _ ⟨IntKind.i64.wrap (pc+1),_,by push_cast (disch:=omega)[hρ],rfl,e1⟩
  have c3':knownB x.op=false:=by simpa using c3
  by_cases c5:x.op=18
  ·push_cast (disch:=omega)[hρ,g0,c1,c2]
   refine Q3 (Zr x.op) ?_
   rintro a rfl
   rw[c3']
   push_cast (disch:=omega)[hρ,aBool,g0,g1,c5]
   exact hN _ _ ⟨x.a,_,by push_cast (disch:=omega)[hρ],rfl,by unfold doF;rw[if_neg c1,if_neg c2,if_neg c3,if_pos c5]⟩
  by_cases c6:x.op=19
  ·push_cast (disch:=omega)[hρ,g0,c1,c2]
   refine Q3 (Zr x.op) ?_
   rintro a rfl
   rw[c3']
   push_cast (disch:=omega)[hρ,aBool,g0,g1,c5,c6,cells8]
   refine Q3 (Q92 rs x.a) ?_
   rintro a rfl
   by_cases c7:rg rs x.a=0
   ·push_cast (disch:=omega)[hρ,aInt,c7,g2]
    exact hN _ _ ⟨x.b,_,by push_cast (disch:=omega)[hρ],rfl,by unfold doF;rw[if_neg c1,if_neg c2,if_neg c3,if_neg c5,if_pos ⟨c6,c7⟩]⟩
   ·push_cast (disch:=omega)[hρ,aInt,c7,g2]
    exact hN _ _ ⟨IntKind.i64.wrap (pc+1),_,by push_cast (disch:=omega)[hρ],rfl,by unfold doF;rw[if_neg c1,if_neg c2,if_neg c3,if_neg c5,if_neg fun h=>c7 h.2]⟩
  ·push_cast (disch:=omega)[hρ,g0,c1,c2]
   refine Q3 (Zr x.op) ?_
   rintro a rfl
   rw[c3']
   push_cast (disch:=omega)[hρ,aBool,g0,g1,c5,c6]
   exact hN _ _ ⟨IntKind.i64.wrap (pc+1),_,by push_cast (disch:=omega)[hρ],rfl,by unfold doF;rw[if_neg c1,if_neg c2,if_neg c3,if_neg c5,if_neg fun h=>c6 h.1]⟩
 clear hρ ε
 rintro ε σ ⟨nx,rs',hρ,rfl,hD⟩
 push_cast (disch:=omega)[hρ,cells8,cellsIx']
 refine Q3 (step_of_a x rs) ?_
 rintro a rfl
 push_cast (disch:=omega)[hρ]
 refine ⟨Q8 (by push_cast (disch:=omega)[hρ,cells8,ex_Rg]),?_⟩
 refine Q5 (cs:=aRg z8) rfl rfl rfl (by decide) ?_
 rw[hset8]
 push_cast (disch:=omega)[hρ]
 refine Q5 (cs:=aEf ef0) rfl rfl rfl (by decide) ?_
 rw[hset5]
 push_cast (disch:=omega)[hρ,cells8,cells5]
 exact fin _ _ hD
set_option maxHeartbeats 8000000 in
theorem step_Took_a (rs:List Int) (e:Ef) (got:Int) (hr:rs.length=8):FnP Tryz.prog 92 [.agg (aRg rs),.agg (aEf e),aInt got] fun a=>a=.agg (aRg (tookR rs e got)):=by
 refine Qh K_step_Took mixed rfl (by simp[AV.pureL,AV.pure,Z54,Q84,aInt]) ?_
 simp only[X52,aInt]
 have hae:(AV.agg (aEf e)).cells=aEf e:=rfl
 have har:(AV.agg (aRg rs)).cells=aRg rs:=rfl
 have g0:(aEf e)[0]?=some (.v (.int .i64 e.k)):=rfl
 have g2:(aEf e)[2]?=some (.v (.int .i64 e.v)):=rfl
 have g4:(aEf e)[4]?=some (.v (.int .i64 e.r)):=rfl
 obtain ⟨hh0,hh1⟩:=Z97 e.r
 have hse:=fun v=>rg_set hr e.r v
 have hlen:(heldN e.r).toNat < (aRg rs).length:=Z96 e.r
 have hset8:∀r:List Int,setAtA (aRg z8) 0 (aRg r)=aRg r:=fun r=>rfl
 have fin:∀(r:List Int) (σ:Kx.St),tookR rs e got=r→∃is,((AV.agg (aRg r)).res (Go.Kx.freeze is σ)).pure=true∧(AV.agg (aRg r)).res (Go.Kx.freeze is σ)=.agg (aRg (tookR rs e got)):=fun r σ h=>by rw[h];exact ZA [] (by simp[AV.res,aRg_res]) (by simp[AV.pure,Q84])
 refine Q1 (fun ε σ=>(ε 2=.v (.int .i64 got)∧ε 3=.ref 0 0 0∧ε 4=.ref 1 0 0∧ε 6=.ref 2 0 0)∧σ=[.obj 0 (aRg rs),.obj 0 (aEf e),.obj 0 (aRg z8)]) ?_ ?_
 ·intro N X R hN
  push_cast (maxSteps:=999999) (disch:=omega)
  refine Qd ?_
  push_cast (maxSteps:=999999) (disch:=omega)[har]
  refine Qd ?_
  push_cast (maxSteps:=999999) (disch:=omega)[hae]
  refine Qb ?_
  push_cast (maxSteps:=999999) (disch:=omega)
  exact hN _ _ ⟨by push_cast (maxSteps:=999999) (disch:=omega),rfl⟩
 rintro ε σ ⟨hρ,rfl⟩
 refine Q1 (fun ε σ=>(ε 3=.ref 0 0 0∧ε 6=.ref 2 0 0)∧σ=[.obj 0 (aRg (tookR rs e got)),.obj 0 (aEf e),.obj 0 (aRg z8)]) ?_ ?_
 ·intro N X R hN
  by_cases c4:e.k=4
  ·have ht:∀v,v=(if got=e.v then 1 else 0)→tookR rs e got=setR rs e.r v:=fun v h=>by unfold tookR;rw[if_pos c4,h]
   by_cases cg:got=e.v
   ·rw[ht 1 (by rw[if_pos cg])] at hN
    push_cast (maxSteps:=999999) (disch:=omega)[hρ,g0,c4,g2,cg,g4]
    refine Q3 (Qw e.r) ?_
    rintro a rfl
    push_cast (maxSteps:=999999) (disch:=omega)[hρ,aInt]
    refine Q6 rfl rfl rfl hlen ?_
    rw[hse]
    push_cast (maxSteps:=999999) (disch:=omega)
    exact hN _ _ ⟨by push_cast (maxSteps:=999999) (disch:=omega)[hρ],rfl⟩
   ·rw[ht 0 (by rw[if_neg cg])] at hN
    push_cast (maxSteps:=999999) (disch:=omega)[hρ,g0,c4,g2,cg,g4]
    refine Q3 (Qw e.r) ?_
    rintro a rfl
    push_cast (maxSteps:=999999) (disch:=omega)[hρ,aInt]
    refine Q6 rfl rfl rfl hlen ?_
    rw[hse]
    push_cast (maxSteps:=999999) (disch:=omega)
    exact hN _ _ ⟨by push_cast (maxSteps:=999999) (disch:=omega)[hρ],rfl⟩
  by_cases c1:e.k=1
  ·have ht:tookR rs e got=setR rs e.r got:=by unfold tookR;rw[if_neg c4,if_pos (.inl c1)]
   rw[ht] at hN
   push_cast (maxSteps:=999999) (disch:=omega)[hρ,g0,c4,c1,g4]
   refine Q3 (Qw e.r) ?_
   rintro a rfl
   push_cast (maxSteps:=999999) (disch:=omega)[hρ,aInt]
   refine Q6 rfl rfl rfl hlen ?_
   rw[hse]
   push_cast (maxSteps:=999999) (disch:=omega)
   exact hN _ _ ⟨by push_cast (maxSteps:=999999) (disch:=omega)[hρ],rfl⟩
  by_cases c3:e.k=3
  ·have ht:tookR rs e got=setR rs e.r got:=by unfold tookR;rw[if_neg c4,if_pos (.inr c3)]
   rw[ht] at hN
   push_cast (maxSteps:=999999) (disch:=omega)[hρ,g0,c4,c1,c3,g4]
   refine Q3 (Qw e.r) ?_
   rintro a rfl
   push_cast (maxSteps:=999999) (disch:=omega)[hρ,aInt]
   refine Q6 rfl rfl rfl hlen ?_
   rw[hse]
   push_cast (maxSteps:=999999) (disch:=omega)
   exact hN _ _ ⟨by push_cast (maxSteps:=999999) (disch:=omega)[hρ],rfl⟩
  have ht:tookR rs e got=rs:=by unfold tookR;rw[if_neg c4,if_neg (by omega)]
  rw[ht] at hN
  push_cast (maxSteps:=999999) (disch:=omega)[hρ,g0,c4,c1,c3]
  exact hN _ _ ⟨by push_cast (maxSteps:=999999) (disch:=omega)[hρ],rfl⟩
 clear hρ ε
 rintro ε σ ⟨hρ,rfl⟩
 push_cast (maxSteps:=999999) (disch:=omega)[hρ,cells8]
 refine Q5 (cs:=aRg z8) rfl rfl rfl (by decide) ?_
 rw[hset8]
 push_cast (maxSteps:=999999) (disch:=omega)[hρ,cells8]
 exact fin _ _ rfl
end Go.Proofs.YtncdnegdlkmicaaGreat
