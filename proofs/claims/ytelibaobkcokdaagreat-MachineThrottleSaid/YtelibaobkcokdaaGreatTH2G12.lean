/- Serial: Do and Took: the walks. -/
import Derived.Test.YtelibaobkcokdaaGreatTH2G11
import Derived.Test.YtelibaobkcokdaaGreatProg
import Derived.KernelRfl
namespace Go.Proofs.YtelibaobkcokdaaGreat
set_option linter.unusedVariables false
set_option linter.unusedSimpArgs false
open Go Go.Kx Go.Proofs
theorem ex_Rg (rs:List Int):(AV.agg (aRg rs)).exact=true:=rfl
def aDo (r:Int×List Int×Ef×Int):AV:=.tup [aInt r.1,.agg (aRg r.2.1),.agg (aEf r.2.2.1),aInt r.2.2.2]
theorem aDo_pure (r:Int×List Int×Ef×Int):(aDo r).pure=true:=by simp[aDo,AV.pure,AV.pureL,XH,X17,aInt]
theorem aDo_res (σ:St) (r:Int×List Int×Ef×Int):(aDo r).res σ=aDo r:=by simp[aDo,AV.res,AV.resL,aRg_res,aEf_res,aInt]
set_option maxHeartbeats 16000000 in
theorem step_Do_a (x:Ix) (pc:Int) (rs:List Int) (hr:rs.length=8):FnP Tryz.prog 150 [.agg (aIx x),aInt pc,.agg (aRg rs)] fun a=>a=aDo (doF x pc rs):=by
 refine Qj S_step_Do.2 mixed rfl (by simp[AV.pureL,AV.pure,Z76,XH,aInt]) ?_;simp only[S_step_Do,aInt,qH];have hax:(AV.agg (aIx x)).cells=aIx x:=rfl;have har:(AV.agg (aRg rs)).cells=aRg rs:=rfl;have g0:(aIx x)[0]?=some (.v (.int .i64 x.op)):=rfl;have g1:(aIx x)[1]?=some (.v (.int .i64 x.a)):=rfl;have g2:(aIx x)[2]?=some (.v (.int .i64 x.b)):=rfl;have g3:(aIx x)[3]?=some (.v (.int .i64 x.c)):=rfl;have hh:=held_in x.a;have hhl:=Y74 x.a;have hset8:∀r:List Int,setAtA (aRg z8) 0 (aRg r)=aRg r:=fun r=>rfl;have hset5:∀e:Ef,setAtA (aEf ef0) 0 (aEf e)=aEf e:=fun e=>rfl;have fin:∀(r:Int×List Int×Ef×Int) (σ:Kx.St),doF x pc rs=r→∃is,((aDo r).res (Go.Kx.freeze is σ)).pure=true∧(aDo r).res (Go.Kx.freeze is σ)=aDo (doF x pc rs):=fun r σ h=>by rw[h];exact Y67 [] (aDo_res _ _) (aDo_pure _)
 refine Qc (fun ε σ=>(ε 1=.v (.int .i64 pc)∧ε 3=.ref 0 0 0∧ε 5=.ref 1 0 0∧ε 7=.ref 2 0 0∧ε 8=.ref 3 0 0)∧σ=[.obj 0 (aIx x),.obj 0 (aRg rs),.obj 0 (aRg z8),.obj 0 (aEf ef0)]) ?_ ?_
 ·intro N X R hN;push_cast (disch:=omega);refine Qs ?_;push_cast (disch:=omega)[hax];refine Qs ?_;push_cast (disch:=omega)[har];refine Qm ?_;push_cast (disch:=omega);refine Qm ?_;push_cast (disch:=omega);exact hN _ _ ⟨by push_cast (disch:=omega),rfl⟩
 rintro ε σ ⟨hρ,rfl⟩;refine Qc (fun ε σ=>(ε 1=.v (.int .i64 pc)∧ε 3=.ref 0 0 0∧ε 5=.ref 1 0 0∧ε 7=.ref 2 0 0∧ε 8=.ref 3 0 0∧ε 10=.ref 4 0 0∧ε 11=.v (.int .i64 (IntKind.i64.wrap (pc+1))))∧σ=[.obj 0 (aIx x),.obj 0 (aRg rs),.obj 0 (aRg z8),.obj 0 (aEf ef0),.obj 0 (aRg rs)]) ?_ ?_
 ·intro N X R hN;push_cast (disch:=omega)[hρ,cells8];refine Qm ?_;push_cast (disch:=omega);refine Qd (cs:=aRg z8) rfl rfl rfl ko ?_;rw[hset8];push_cast (disch:=omega);exact hN _ _ ⟨by push_cast (disch:=omega)[hρ],rfl⟩
 clear hρ ε;rintro ε σ ⟨hρ,rfl⟩;refine Qt (fun ε σ=>∃nx rs',(ε 3=.ref 0 0 0∧ε 5=.ref 1 0 0∧ε 7=.ref 2 0 0∧ε 8=.ref 3 0 0∧ε 10=.ref 4 0 0∧ε 11=.v (.int .i64 nx))∧σ=[.obj 0 (aIx x),.obj 0 (aRg rs),.obj 0 (aRg z8),.obj 0 (aEf ef0),.obj 0 (aRg rs')]∧doF x pc rs=(nx,rs',ofE x rs,0)) ?_ ?_
 ·intro N hN;refine ZF fun X' _=>?_;have hse:=fun v=>rg_set hr x.a v;have hlen:(heldN x.a).toNat < (aRg rs).length:=hhl;obtain ⟨hh0,hh1⟩:=hh;by_cases c1:x.op=1
  ·push_cast (disch:=omega)[hρ,g0,c1,g1,g2];refine Q5 (QJ x.a) ?_;push_cast (disch:=omega)[hρ,aInt];refine ⟨Qw (by push_cast (disch:=omega)[hρ,g2,Y73]),?_⟩;refine Q9 rfl rfl rfl hlen ?_;rw[hse];push_cast (disch:=omega);exact hN _ _ ⟨IntKind.i64.wrap (pc+1),_,by push_cast (disch:=omega)[hρ],rfl,by unfold doF;rw[if_pos c1]⟩
  by_cases c2:x.op=2
  ·push_cast (disch:=omega)[hρ,g0,c1,c2,g1,g2,cells8];refine Q5 (QJ x.a) ?_;push_cast (disch:=omega)[hρ,aInt];refine ⟨Qw (by push_cast (disch:=omega)[hρ,g2,Y73]),Qw oE,?_⟩;refine Q5 (ZH rs x.b) ?_;push_cast (disch:=omega)[hρ,aInt];refine Q9 rfl rfl rfl hlen ?_;rw[hse];push_cast (disch:=omega);exact hN _ _ ⟨IntKind.i64.wrap (pc+1),_,by push_cast (disch:=omega)[hρ],rfl,by unfold doF;rw[if_neg c1,if_pos c2]⟩
  by_cases c3:knownB x.op=true
  ·have e1:doF x pc rs=if (wrapD x.op (rg rs x.b) (rg rs x.c)).2≠0 then (pc,rs,ef0,(wrapD x.op (rg rs x.b) (rg rs x.c)).2) else (IntKind.i64.wrap (pc+1),setR rs x.a (wrapD x.op (rg rs x.b) (rg rs x.c)).1,ofE x rs,0):=by unfold doF;rw[if_neg c1,if_neg c2,if_pos c3]
   push_cast (disch:=omega)[hρ,g0,c1,c2];refine Q5 (Z08 x.op) ?_;rw[c3];push_cast (disch:=omega)[hρ,aBool,g0,g2,g3,cells8];refine Q5 (ZH rs x.b) ?_;push_cast (disch:=omega)[hρ];refine ⟨Qw (by push_cast (disch:=omega)[hρ,g3,Y73]),Qw oE,Qw (by push_cast (disch:=omega)[hρ,g0,Y73]),?_⟩;refine Q5 (ZH rs x.c) ?_;push_cast (disch:=omega)[hρ];refine ⟨Qw (by push_cast (disch:=omega)[hρ,g0,Y73]),?_⟩;refine Q5 (wrap_Do_a x.op (rg rs x.b) (rg rs x.c)) ?_;generalize wrapD x.op (rg rs x.b) (rg rs x.c)=wd at e1;by_cases c4:wd.2≠0
   ·rw[if_pos c4] at e1;have c4':¬wd.2=0:=c4;have hb0:fillA [AV.v (.int .i64 0),AV.v (.int .i64 0),AV.v (.int .i64 0),AV.v (.int .i64 0),AV.v (.int .i64 0)] [] []=some (aEf ef0):=by simp[fillA,aEf,ef0]
    push_cast (disch:=omega)[hρ,aInt,c4',cells8,hb0];refine Qd (cs:=aRg z8) rfl rfl rfl ko ?_;rw[hset8];push_cast (disch:=omega)[hρ];refine Qd (cs:=aEf ef0) rfl rfl rfl ko ?_;rw[hset5];push_cast (disch:=omega)[hρ,cells8,cells5];exact fin _ _ e1
   ·rw[if_neg c4] at e1;have c4':wd.2=0:=by simpa using c4
    push_cast (disch:=omega)[hρ,aInt,c4',g1];refine Q5 (QJ x.a) ?_;push_cast (disch:=omega)[hρ,aInt];refine Q9 rfl rfl rfl hlen ?_;rw[hse];push_cast (disch:=omega);exact hN _ _ ⟨IntKind.i64.wrap (pc+1),_,by push_cast (disch:=omega)[hρ],rfl,e1⟩
  have c3':knownB x.op=false:=by simpa using c3
  by_cases c5:x.op=18
  ·push_cast (disch:=omega)[hρ,g0,c1,c2];refine Q5 (Z08 x.op) ?_;rw[c3'];push_cast (disch:=omega)[hρ,aBool,g0,g1,c5];exact hN _ _ ⟨x.a,_,by push_cast (disch:=omega)[hρ],rfl,by unfold doF;rw[if_neg c1,if_neg c2,if_neg c3,if_pos c5]⟩
  by_cases c6:x.op=19
  ·push_cast (disch:=omega)[hρ,g0,c1,c2];refine Q5 (Z08 x.op) ?_;rw[c3'];push_cast (disch:=omega)[hρ,aBool,g0,g1,c5,c6,cells8];refine Q5 (ZH rs x.a) ?_;by_cases c7:rg rs x.a=0
   ·push_cast (disch:=omega)[hρ,aInt,c7,g2];exact hN _ _ ⟨x.b,_,by push_cast (disch:=omega)[hρ],rfl,by unfold doF;rw[if_neg c1,if_neg c2,if_neg c3,if_neg c5,if_pos ⟨c6,c7⟩]⟩
   ·push_cast (disch:=omega)[hρ,aInt,c7,g2];exact hN _ _ ⟨IntKind.i64.wrap (pc+1),_,by push_cast (disch:=omega)[hρ],rfl,by unfold doF;rw[if_neg c1,if_neg c2,if_neg c3,if_neg c5,if_neg fun h=>c7 h.2]⟩
  ·push_cast (disch:=omega)[hρ,g0,c1,c2];refine Q5 (Z08 x.op) ?_;rw[c3'];push_cast (disch:=omega)[hρ,aBool,g0,g1,c5,c6];exact hN _ _ ⟨IntKind.i64.wrap (pc+1),_,by push_cast (disch:=omega)[hρ],rfl,by unfold doF;rw[if_neg c1,if_neg c2,if_neg c3,if_neg c5,if_neg fun h=>c6 h.1]⟩
 clear hρ ε;rintro ε σ ⟨nx,rs',hρ,rfl,hD⟩;push_cast (disch:=omega)[hρ,cells8,cellsIx'];refine Q5 (step_of_a x rs) ?_;push_cast (disch:=omega)[hρ];refine ⟨Qw oE,?_⟩;refine Qd (cs:=aRg z8) rfl rfl rfl ko ?_;rw[hset8];push_cast (disch:=omega)[hρ];refine Qd (cs:=aEf ef0) rfl rfl rfl ko ?_;rw[hset5];push_cast (disch:=omega)[hρ,cells8,cells5];exact fin _ _ hD
set_option maxHeartbeats 8000000 in
theorem YF (rs:List Int) (e:Ef) (got:Int) (hr:rs.length=8):FnP Tryz.prog 157 [.agg (aRg rs),.agg (aEf e),aInt got] fun a=>a=.agg (aRg (tookR rs e got)):=by
 refine Qj Yw.2 mixed rfl (by simp[AV.pureL,AV.pure,X17,XH,aInt]) ?_;simp only[Yw,aInt,qH];have hae:(AV.agg (aEf e)).cells=aEf e:=rfl;have har:(AV.agg (aRg rs)).cells=aRg rs:=rfl;have g0:(aEf e)[0]?=some (.v (.int .i64 e.k)):=rfl;have g2:(aEf e)[2]?=some (.v (.int .i64 e.v)):=rfl;have g4:(aEf e)[4]?=some (.v (.int .i64 e.r)):=rfl;obtain ⟨hh0,hh1⟩:=held_in e.r;have hse:=fun v=>rg_set hr e.r v;have hlen:(heldN e.r).toNat < (aRg rs).length:=Y74 e.r;have hset8:∀r:List Int,setAtA (aRg z8) 0 (aRg r)=aRg r:=fun r=>rfl;have fin:∀(r:List Int) (σ:Kx.St),tookR rs e got=r→∃is,((AV.agg (aRg r)).res (Go.Kx.freeze is σ)).pure=true∧(AV.agg (aRg r)).res (Go.Kx.freeze is σ)=.agg (aRg (tookR rs e got)):=fun r σ h=>by rw[h];exact Y67 [] (by simp[AV.res,aRg_res]) (by simp[AV.pure,XH])
 refine Qc (fun ε σ=>(ε 2=.v (.int .i64 got)∧ε 3=.ref 0 0 0∧ε 4=.ref 1 0 0∧ε 6=.ref 2 0 0)∧σ=[.obj 0 (aRg rs),.obj 0 (aEf e),.obj 0 (aRg z8)]) ?_ ?_
 ·intro N X R hN;push_cast (maxSteps:=999999) -implicitDefEqProofs (disch:=omega);refine Qs ?_;push_cast (maxSteps:=999999) -implicitDefEqProofs (disch:=omega)[har];refine Qs ?_;push_cast (maxSteps:=999999) -implicitDefEqProofs (disch:=omega)[hae];refine Qm ?_;push_cast (maxSteps:=999999) -implicitDefEqProofs (disch:=omega);exact hN _ _ ⟨by push_cast (maxSteps:=999999) -implicitDefEqProofs (disch:=omega),rfl⟩
 rintro ε σ ⟨hρ,rfl⟩;refine Qc (fun ε σ=>(ε 3=.ref 0 0 0∧ε 6=.ref 2 0 0)∧σ=[.obj 0 (aRg (tookR rs e got)),.obj 0 (aEf e),.obj 0 (aRg z8)]) ?_ ?_
 ·intro N X R hN;by_cases c4:e.k=4
  ·have ht:∀v,v=(if got=e.v then 1 else 0)→tookR rs e got=setR rs e.r v:=fun v h=>by unfold tookR;rw[if_pos c4,h]
   by_cases cg:got=e.v
   ·rw[ht 1 (by rw[if_pos cg])] at hN;push_cast (maxSteps:=999999) -implicitDefEqProofs (disch:=omega)[hρ,g0,c4,g2,cg,g4];refine Q5 (QJ e.r) ?_;push_cast (maxSteps:=999999) -implicitDefEqProofs (disch:=omega)[hρ,aInt];refine Q9 rfl rfl rfl hlen ?_;rw[hse];push_cast (maxSteps:=999999) -implicitDefEqProofs (disch:=omega);exact hN _ _ ⟨by push_cast (maxSteps:=999999) -implicitDefEqProofs (disch:=omega)[hρ],rfl⟩
   ·rw[ht 0 (by rw[if_neg cg])] at hN;push_cast (maxSteps:=999999) -implicitDefEqProofs (disch:=omega)[hρ,g0,c4,g2,cg,g4];refine Q5 (QJ e.r) ?_;push_cast (maxSteps:=999999) -implicitDefEqProofs (disch:=omega)[hρ,aInt];refine Q9 rfl rfl rfl hlen ?_;rw[hse];push_cast (maxSteps:=999999) -implicitDefEqProofs (disch:=omega);exact hN _ _ ⟨by push_cast (maxSteps:=999999) -implicitDefEqProofs (disch:=omega)[hρ],rfl⟩
  by_cases c1:e.k=1
  ·have ht:tookR rs e got=setR rs e.r got:=by unfold tookR;rw[if_neg c4,if_pos (.inl c1)]
   rw[ht] at hN;push_cast (maxSteps:=999999) -implicitDefEqProofs (disch:=omega)[hρ,g0,c4,c1,g4];refine Q5 (QJ e.r) ?_;push_cast (maxSteps:=999999) -implicitDefEqProofs (disch:=omega)[hρ,aInt];refine Q9 rfl rfl rfl hlen ?_;rw[hse];push_cast (maxSteps:=999999) -implicitDefEqProofs (disch:=omega);exact hN _ _ ⟨by push_cast (maxSteps:=999999) -implicitDefEqProofs (disch:=omega)[hρ],rfl⟩
  by_cases c3:e.k=3
  ·have ht:tookR rs e got=setR rs e.r got:=by unfold tookR;rw[if_neg c4,if_pos (.inr c3)]
   rw[ht] at hN;push_cast (maxSteps:=999999) -implicitDefEqProofs (disch:=omega)[hρ,g0,c4,c1,c3,g4];refine Q5 (QJ e.r) ?_;push_cast (maxSteps:=999999) -implicitDefEqProofs (disch:=omega)[hρ,aInt];refine Q9 rfl rfl rfl hlen ?_;rw[hse];push_cast (maxSteps:=999999) -implicitDefEqProofs (disch:=omega);exact hN _ _ ⟨by push_cast (maxSteps:=999999) -implicitDefEqProofs (disch:=omega)[hρ],rfl⟩
  have ht:tookR rs e got=rs:=by unfold tookR;rw[if_neg c4,if_neg ka]
  rw[ht] at hN;push_cast (maxSteps:=999999) -implicitDefEqProofs (disch:=omega)[hρ,g0,c4,c1,c3];exact hN _ _ ⟨by push_cast (maxSteps:=999999) -implicitDefEqProofs (disch:=omega)[hρ],rfl⟩
 clear hρ ε;rintro ε σ ⟨hρ,rfl⟩;push_cast (maxSteps:=999999) -implicitDefEqProofs (disch:=omega)[hρ,cells8];refine Qd (cs:=aRg z8) rfl rfl rfl ko ?_;rw[hset8];push_cast (maxSteps:=999999) -implicitDefEqProofs (disch:=omega)[hρ,cells8];exact fin _ _ rfl
end Go.Proofs.YtelibaobkcokdaaGreat
namespace Go.Proofs.YtelibaobkcokdaaGreat
open Go Go.Kx Go.Proofs
set_option linter.unusedVariables false
set_option maxRecDepth 100000
set_option maxHeartbeats 16000000
noncomputable def Z09:=qH Tryz.prog 69
noncomputable def Z10:=qH Tryz.prog 70
noncomputable def Z11:=qH Tryz.prog 81
noncomputable def Z52:=qH Tryz.prog 117
noncomputable def Z90:=qH Tryz.prog 118
noncomputable def Z12:=qH Tryz.prog 119
noncomputable def Q09:=qH Tryz.prog 132
noncomputable def Z13:=qH Tryz.prog 133
noncomputable def ZI:=qH Tryz.prog 137
noncomputable def X73:=qH Tryz.prog 153
noncomputable def X74:=qH Tryz.prog 160
noncomputable def X75:=qH Tryz.prog 161
noncomputable def XV:=qH Tryz.prog 165
noncomputable def Z14:=qH Tryz.prog 170
noncomputable def Z53:=qH Tryz.prog 171
noncomputable def Z91:=qH Tryz.prog 173
noncomputable def Z92:=qH Tryz.prog 174
noncomputable def Z54:=qH Tryz.prog 177
noncomputable def Z55:=qH Tryz.prog 178
noncomputable def Y43:=qH Tryz.prog 234
noncomputable def Q72:=qH Tryz.prog 235
noncomputable def X76:=qH Tryz.prog 236
noncomputable def Xp:=qH Tryz.prog 237
noncomputable def Z56:=qH Tryz.prog 238
noncomputable def X77:=qH Tryz.prog 239
noncomputable def Z93:=qH Tryz.prog 240
noncomputable def Z57:=qH Tryz.prog 241
noncomputable def X78:=qH Tryz.prog 242
noncomputable def YG:=qH Tryz.prog 243
noncomputable def Z94:=qH Tryz.prog 244
noncomputable def Q93:=qH Tryz.prog 245
noncomputable def ZJ:=qH Tryz.prog 246
noncomputable def Z58:=qH Tryz.prog 250
noncomputable def Z95:=qH Tryz.prog 251
noncomputable def ZK:=qH Tryz.prog 252
noncomputable def ZL:=qH Tryz.prog 253
noncomputable def Z96:=qH Tryz.prog 256
noncomputable def Z15:=qH Tryz.prog 278
noncomputable def X19:=qH Tryz.prog 279
noncomputable def X79:=qH Tryz.prog 280
noncomputable def XW:=qH Tryz.prog 281
noncomputable def Q94:=qH Tryz.prog 282
noncomputable def X80:=qH Tryz.prog 283
noncomputable def Z16:=qH Tryz.prog 284
noncomputable def Xq:=qH Tryz.prog 285
noncomputable def Q95:=qH Tryz.prog 286
noncomputable def Z17:=qH Tryz.prog 287
noncomputable def Q73:=qH Tryz.prog 288
noncomputable def Z18:=qH Tryz.prog 291
noncomputable def Z59:=qH Tryz.prog 292
noncomputable def X20:=qH Tryz.prog 304
noncomputable def Y44:=qH Tryz.prog 305
noncomputable def X81:=qH Tryz.prog 306
noncomputable def Y45:=qH Tryz.prog 307
noncomputable def Z60:=qH Tryz.prog 308
noncomputable def Z61:=qH Tryz.prog 309
noncomputable def X82:=qH Tryz.prog 315
end Go.Proofs.YtelibaobkcokdaaGreat
namespace Go.Proofs.YtelibaobkcokdaaGreat.Mx
set_option linter.unusedVariables false
set_option linter.unusedSimpArgs false
open Go Go.Kx Go.Proofs Go.Proofs.YtelibaobkcokdaaGreat
theorem ah_eq {d:Nat} {n:Option Nat} {x:Operand} {ε:AEnv} {σ:Kx.St}:SItem.aholds ⟨some d,none,.ld n x⟩ ε σ=(ldA n (evA ε x) σ=some (ε d)∧(ε d).exact=true):=
 propext ⟨fun h=>by
  rcases h with ⟨_,a,h1,h2,h3⟩|h
  ·rw[h3 d rfl];exact ⟨h1,h2⟩
  ·exact h.elim,fun h=>.inl ⟨trivial,ε d,h.1,h.2,fun e he=>by cases he;rfl⟩⟩
theorem ex_v {x:Value}:(AV.v x).exact=true:=(rfl)
theorem ex_ref {i v o:Nat}:(AV.ref i v o).exact=true:=(rfl)
attribute [push_cast] ah_eq ex_v ex_ref
def aPl (q:Pm):List AV:=[.v (.int .i64 q.W),.v (.int .i64 q.F),.v (.int .i64 q.T),.v (.int .i64 q.D)]
theorem cells4 (q:Pm):cellsA (some 4) (aPl q)=some (.agg (aPl q)):=rfl
theorem Ya (q:Pm):AV.pureL (aPl q)=true:=by simp[aPl,AV.pureL,AV.pure]
theorem pl0 (q:Pm):(aPl q)[0]?=some (.v (.int .i64 q.W)):=rfl
theorem pl1 (q:Pm):(aPl q)[1]?=some (.v (.int .i64 q.F)):=rfl
theorem pl2 (q:Pm):(aPl q)[2]?=some (.v (.int .i64 q.T)):=rfl
theorem pl3 (q:Pm):(aPl q)[3]?=some (.v (.int .i64 q.D)):=rfl
theorem ex_pl (q:Pm):(AV.agg (aPl q)).exact=true:=(rfl)
attribute [push_cast] ex_pl
theorem Qi (q:Pm):(AV.agg (aPl q)).cells=aPl q:=rfl
theorem Q28 (n a b:Int):FnP Tryz.prog 118 [aInt n,aInt a,aInt b] fun r=>r=aInt (cl n a b):=by refine Qj Z90.2 mixed rfl o7 ?_;simp only[Z90,aInt,qH];push_cast;exact oo
theorem cl_in {n a b:Int} (h1:a≤n) (h2:n≤b):cl n a b=n:=by unfold cl;omega
theorem eqs4 (q:Pm):PF.av (.eqs true [.int .i64,.int .i64,.int .i64,.int .i64]) [.agg (aPl q),.agg (aPl q)]=some (.v (.bool false)):=by show ((PF.val (.eqs true [.int .i64,.int .i64,.int .i64,.int .i64]) [.agg [.int .i64 q.W,.int .i64 q.F,.int .i64 q.T,.int .i64 q.D].toArray,.agg [.int .i64 q.W,.int .i64 q.F,.int .i64 q.T,.int .i64 q.D].toArray]).map AV.v)=_;simp[PF.val,eqCs,eqC]
theorem XX {q:Pm} (h:q.Ok):FnP Tryz.prog 132 [.agg (aPl q)] fun r=>r=aInt 0:=by
 refine Qj Q09.2 mixed rfl (by simp[AV.pureL,AV.pure,Ya]) ?_;simp only[Q09,qH];obtain ⟨⟨a1,a2⟩,⟨b1,b2⟩,⟨c1,c2⟩,⟨d1,d2⟩,_⟩:=h;push_cast;refine Q6 ?_;have k:∀n a b,FnP Tryz.prog 118 [.v (.int .i64 n),.v (.int .i64 a),.v (.int .i64 b)] fun r=>r=.v (.int .i64 (cl n a b)):=Q28;have e1:=cl_in a1 a2;have e2:=cl_in b1 b2;have e3:=cl_in c1 c2;have e4:=cl_in d1 d2;have heq:=eqs4 q;have hs:setAtA [AV.v (.int .i64 0),AV.v (.int .i64 0),AV.v (.int .i64 0),AV.v (.int .i64 0)] 0 (aPl q)=aPl q:=rfl;have hb:fillA [AV.v (.int .i64 0),AV.v (.int .i64 0),AV.v (.int .i64 0),AV.v (.int .i64 0)] [(0,1),(1,1),(2,1),(3,1)] [.v (.int .i64 q.W),.v (.int .i64 q.F),.v (.int .i64 q.T),.v (.int .i64 q.D)]=some (aPl q):=by simp[fillA,AV.cells,Value.cells,setAtA,aPl]
 push_cast[Qi,pl0,pl1,pl2,pl3]
 repeat' (first
  | (refine Qv (k _ _ _) ?_;rintro a rfl;push_cast[Qi,pl0,pl1,pl2,pl3,e1,e2,e3,e4,hb])
  | (refine Qm ?_;push_cast[Qi,pl0,pl1,pl2,pl3,e1,e2,e3,e4,hb])
  | (refine Qd (cs:=[AV.v (.int .i64 0),.v (.int .i64 0),.v (.int .i64 0),.v (.int .i64 0)]) (l:=aPl q) rfl rfl rfl (by simp[aPl]) ?_;rw[hs];push_cast[cells4,heq];exact ⟨[],rfl,rfl⟩)
  | (refine And.intro ?_ ?_))
theorem X46 (q:Pm):(AV.agg (aPl q)).pure=true:=by rw[AV.pure,Ya]
theorem Q15 {q:Pm} (h:q.Ok):FnP Tryz.prog 117 [.agg (aPl q)] fun r=>r=aBool false:=by refine Qj Z52.2 mixed rfl (by simp[AV.pureL,X46]) ?_;simp only[Z52,qH];push_cast;refine Q6 ?_;push_cast[Qi,cells4];refine Q5 (XX h) ?_;push_cast[aInt,aBool];exact oo
theorem Z77 {q:Pm} (h:q.Ok):FnP Tryz.prog 119 [.agg (aPl q)] fun r=>r=aInt q.wide:=by refine Qj Z12.2 mixed rfl (by simp[AV.pureL,X46]) ?_;simp only[Z12,qH];obtain ⟨⟨a1,a2⟩,⟨b1,b2⟩,⟨c1,c2⟩,⟨d1,d2⟩,_⟩:=h;push_cast (disch:=omega);refine Q6 ?_;push_cast (disch:=omega)[Qi,pl3];exact oo
theorem Z78 {q:Pm} (h:q.Ok):FnP Tryz.prog 133 [.agg (aPl q)] fun r=>r=aInt q.room:=by refine Qj Z13.2 mixed rfl (by simp[AV.pureL,X46]) ?_;simp only[Z13,qH];push_cast (disch:=omega);refine Q6 ?_;push_cast (disch:=omega)[Qi,cells4];refine Q5 (Q15 h) ?_;obtain ⟨⟨a1,a2⟩,⟨b1,b2⟩,⟨c1,c2⟩,⟨d1,d2⟩,_⟩:=h;push_cast (disch:=omega)[aBool,pl2];exact oo
theorem mul_le {a b x y:Int} (h0:0≤a) (h1:a≤x) (k0:0≤b) (k1:b≤y):0≤a * b∧a * b≤x * y:=
 ⟨Int.mul_nonneg h0 k0,Int.le_trans (Int.mul_le_mul_of_nonneg_right h1 k0) (Int.mul_le_mul_of_nonneg_left k1 ka)⟩
theorem Q22 {n:Int} (h0:-9223372036854775808≤n) (h1:n≤9223372036854775807):IntKind.i64.wrap n=n:=wrap_in n h0 h1
theorem Pm.Ok.wide_in {q:Pm} (h:q.Ok):6≤q.wide∧q.wide≤260:=by obtain ⟨_,_,_,⟨d1,d2⟩,_⟩:=h;unfold Pm.wide;omega
theorem Pm.Ok.room_in {q:Pm} (h:q.Ok):10≤q.room∧q.room≤262:=by obtain ⟨_,⟨b1,b2⟩,_⟩:=h;unfold Pm.room;omega
theorem cl_b {n a b:Int} (h:a≤b):a≤cl n a b∧cl n a b≤b:=by unfold cl;omega
theorem Pm.Ok.base_in {q:Pm} (h:q.Ok) (w:Int):0≤q.base w∧q.base w+q.wide≤q.W * q.wide:=by have ⟨w1,w2⟩:=h.wide_in;obtain ⟨⟨a1,a2⟩,_⟩:=h;have ⟨k1,k2⟩:=cl_b (n:=w) (a:=0) (b:=q.W - 1) ka;unfold Pm.base;have:=Int.mul_le_mul_of_nonneg_right k2 (by omega:0≤q.wide);rw[Int.sub_mul] at this;exact ⟨Int.mul_nonneg k1 ka,by omega⟩
theorem Pm.Ok.WW {q:Pm} (h:q.Ok):0≤q.W * q.wide∧q.W * q.wide≤16640:=by have ⟨w1,w2⟩:=h.wide_in;obtain ⟨⟨a1,a2⟩,_⟩:=h;have:=mul_le (by omega:0≤q.W) a2 (by omega:0≤q.wide) w2;omega
theorem Pm.Ok.FF {q:Pm} (h:q.Ok):0≤q.F * q.room∧q.F * q.room≤67072:=by have ⟨w1,w2⟩:=h.room_in;obtain ⟨_,_,⟨a1,a2⟩,_⟩:=h;have:=mul_le (by omega:0≤q.F) a2 (by omega:0≤q.room) w2;omega
theorem Pm.Ok.frame_in {q:Pm} (h:q.Ok) (id:Int):q.W * q.wide≤q.frame id∧q.frame id+q.room≤q.size:=by have ⟨w1,w2⟩:=h.room_in;obtain ⟨_,_,⟨a1,a2⟩,_⟩:=h;have ⟨k1,k2⟩:=cl_b (n:=id) (a:=1) (b:=q.F) ka;unfold Pm.frame Pm.size;have h1:=Int.mul_le_mul_of_nonneg_right k2 (by omega:0≤q.room);have h2:=Int.mul_nonneg (by omega:0≤cl id 1 q.F - 1) (by omega:0≤q.room);rw[Int.sub_mul] at h2 ⊢;omega
theorem Pm.Ok.slot_in {q:Pm} (h:q.Ok) (w n:Int):q.base w+4≤q.slot w n∧q.slot w n < q.base w+q.wide:=by obtain ⟨_,_,_,⟨d1,d2⟩,_⟩:=h;unfold Pm.slot Pm.wide;have h1:=Int.emod_nonneg (max n 0) (by omega:q.D≠0);have h2:=Int.emod_lt_of_pos (max n 0) (by omega:0 < q.D);omega
theorem Pm.Ok.word_in {q:Pm} (h:q.Ok) (id it n:Int) (h0:0≤n) (h3:n≤3):q.frame id+2≤q.word id it n∧q.word id it n < q.frame id+q.room:=by obtain ⟨_,⟨b1,b2⟩,_⟩:=h;unfold Pm.word Pm.room;have h1:=Int.emod_nonneg (max it 0) (by omega:q.T+1≠0);have h2:=Int.emod_lt_of_pos (max it 0) (by omega:0 < q.T+1);omega
theorem Pm.Ok.size_in {q:Pm} (h:q.Ok):0≤q.size∧q.size≤83712:=by have h1:=h.WW;have h2:=h.FF;unfold Pm.size;omega
theorem Y75 {q:Pm} (h:q.Ok):FnP Tryz.prog 81 [.agg (aPl q)] fun r=>r=aInt q.size:=by refine Qj Z11.2 mixed rfl (by simp[AV.pureL,X46]) ?_;simp only[Z11,qH];have ⟨u1,u2⟩:=h.WW;have ⟨u3,u4⟩:=h.FF;have e1:=Q22 (n:=q.W * q.wide) ka ka;have e2:=Q22 (n:=q.F * q.room) ka ka;have e3:=Q22 (n:=q.W * q.wide+q.F * q.room) ka ka;push_cast;refine Q6 ?_;push_cast[Qi,cells4];refine Q5 (Q15 h) ?_;push_cast[aBool,cells4,pl0,pl1];refine Q5 (Z77 h) ?_;push_cast[aInt,cells4,pl0,pl1,e1];refine Q5 (Z78 h) ?_;push_cast[aInt,cells4,pl0,pl1,e1,e2,e3];exact oo
theorem Q37 {q:Pm} (h:q.Ok) (w:Int):FnP Tryz.prog 69 [.agg (aPl q),aInt w] fun r=>r=aInt (q.base w):=by refine Qj Z09.2 mixed rfl oN ?_;simp only[Z09,aInt,qH];have ⟨u1,u2⟩:=h.WW;have ⟨u3,u4⟩:=h.base_in w;have ⟨u5,u6⟩:=h.wide_in;have ⟨⟨a1,a2⟩,_⟩:=h;have e1:=Q22 (n:=cl w 0 (q.W - 1) * q.wide) (by unfold Pm.base at u3;omega) (by unfold Pm.base at u4;omega);push_cast (disch:=omega);refine Q6 ?_;push_cast (disch:=omega)[Qi,cells4];refine Q5 (Q15 h) ?_;push_cast (disch:=omega)[aBool,cells4,pl0,pl1];refine Q5 (Q28 _ _ _) ?_;push_cast (disch:=omega)[aInt,cells4,pl0,pl1];refine Q5 (Z77 h) ?_;push_cast (disch:=omega)[aInt,cells4,pl0,pl1,e1];exact oo
theorem Z79 {q:Pm} (h:q.Ok) (w n:Int):FnP Tryz.prog 70 [.agg (aPl q),aInt w,aInt n] fun r=>r=aInt (q.slot w n):=by refine Qj Z10.2 mixed rfl oN ?_;simp only[Z10,aInt,qH];have ⟨u1,u2⟩:=h.WW;have ⟨u3,u4⟩:=h.base_in w;have ⟨u5,u6⟩:=h.wide_in;have ⟨u7,u8⟩:=h.slot_in w n;have ⟨_,_,_,⟨d1,d2⟩,_⟩:=h;have e1:=Q22 (n:=q.base w+4+max n 0 % q.D) (by unfold Pm.slot at u7;omega) (by unfold Pm.slot at u8;omega);push_cast (disch:=omega);refine Q6 ?_;push_cast (disch:=omega)[Qi,cells4];refine Q5 (Q15 h) ?_;push_cast (disch:=omega)[aBool,cells4,pl3];refine Q5 (Q37 h w) ?_;push_cast (disch:=omega)[aInt,cells4,pl3,e1];exact oo
theorem Qr {q:Pm} (h:q.Ok) (id:Int):FnP Tryz.prog 137 [.agg (aPl q),aInt id] fun r=>r=aInt (q.frame id):=by refine Qj ZI.2 mixed rfl oN ?_;simp only[ZI,aInt,qH];have ⟨u1,u2⟩:=h.WW;have ⟨u3,u4⟩:=h.frame_in id;have ⟨u5,u6⟩:=h.wide_in;have ⟨v5,v6⟩:=h.room_in;have ⟨u7,u8⟩:=h.size_in;have ⟨_,_,⟨d1,d2⟩,_⟩:=h;have ⟨c1,c2⟩:=cl_b (n:=id) (a:=1) (b:=q.F) ka;have e1:=Q22 (n:=q.W * q.wide) ka ka;have e2:=Q22 (n:=(cl id 1 q.F - 1) * q.room) (by unfold Pm.frame at u3;omega) (by unfold Pm.frame at u4;omega);have e3:=Q22 (n:=q.W * q.wide+(cl id 1 q.F - 1) * q.room) (by unfold Pm.frame at u3;omega) (by unfold Pm.frame at u4;omega);push_cast (disch:=omega);refine Q6 ?_;push_cast (disch:=omega)[Qi,cells4];refine Q5 (Q15 h) ?_;push_cast (disch:=omega)[aBool,cells4,pl0,pl1];refine Q5 (Z77 h) ?_;push_cast (disch:=omega)[aInt,cells4,pl0,pl1,e1];refine Q5 (Q28 _ _ _) ?_;push_cast (disch:=omega)[aInt,cells4,pl0,pl1];refine Q5 (Z78 h) ?_;push_cast (disch:=omega)[aInt,cells4,pl0,pl1,e1,e2,e3];exact oo
theorem Xr {q:Pm} (h:q.Ok) (id:Int):FnP Tryz.prog 308 [.agg (aPl q),aInt id] fun r=>r=aInt (q.nap id):=by refine Qj Z60.2 mixed rfl oN ?_;simp only[Z60,aInt,qH];have ⟨u1,u2⟩:=h.WW;have ⟨u3,u4⟩:=h.frame_in id;have ⟨v5,v6⟩:=h.room_in;have ⟨u7,u8⟩:=h.size_in;push_cast (disch:=omega);refine Q6 ?_;push_cast (disch:=omega)[Qi,cells4];refine Q5 (Q15 h) ?_;push_cast (disch:=omega)[aBool,cells4];refine Q5 (Qr h id) ?_;push_cast (disch:=omega)[aInt];exact oo
theorem Zw {q:Pm} (h:q.Ok) (id it n:Int) (h0:0≤n) (h3:n≤3):FnP Tryz.prog 278 [.agg (aPl q),aInt id,aInt it,aInt n] fun r=>r=aInt (q.word id it n):=by refine Qj Z15.2 mixed rfl oN ?_;simp only[Z15,aInt,qH];have ⟨u1,u2⟩:=h.WW;have ⟨u3,u4⟩:=h.frame_in id;have ⟨v5,v6⟩:=h.room_in;have ⟨u7,u8⟩:=h.size_in;have ⟨_,⟨d1,d2⟩,_⟩:=h;have t1:=Int.emod_nonneg (max it 0) (by omega:q.T+1≠0);have t2:=Int.emod_lt_of_pos (max it 0) (by omega:0 < q.T+1);push_cast (disch:=omega);refine Q6 ?_;push_cast (disch:=omega)[Qi,cells4];refine Q5 (Q15 h) ?_;push_cast (disch:=omega)[aBool,cells4,pl2];refine Q5 (Qr h id) ?_;push_cast (disch:=omega)[aInt,pl2];exact oo
theorem Z97 {q:Pm} (h:q.Ok) (id it:Int):FnP Tryz.prog 235 [.agg (aPl q),aInt id,aInt it] fun r=>r=aInt (q.word id it 0):=by refine Qj Q72.2 mixed rfl oN ?_;simp only[Q72,aInt,qH];push_cast;refine Q6 ?_;push_cast[Qi,cells4];refine Q5 (Zw h id it 0 ko ko) ?_;push_cast[aInt];exact oo
theorem ZM {q:Pm} (h:q.Ok) (id it:Int):FnP Tryz.prog 282 [.agg (aPl q),aInt id,aInt it] fun r=>r=aInt (q.word id it 1):=by refine Qj Q94.2 mixed rfl oN ?_;simp only[Q94,aInt,qH];push_cast;refine Q6 ?_;push_cast[Qi,cells4];refine Q5 (Zw h id it 1 ko ko) ?_;push_cast[aInt];exact oo
theorem X21 {q:Pm} (h:q.Ok) (id it:Int):FnP Tryz.prog 284 [.agg (aPl q),aInt id,aInt it] fun r=>r=aInt (q.word id it 2):=by refine Qj Z16.2 mixed rfl oN ?_;simp only[Z16,aInt,qH];push_cast;refine Q6 ?_;push_cast[Qi,cells4];refine Q5 (Zw h id it 2 ko ko) ?_;push_cast[aInt];exact oo
theorem X22 {q:Pm} (h:q.Ok) (id it:Int):FnP Tryz.prog 291 [.agg (aPl q),aInt id,aInt it] fun r=>r=aInt (q.word id it 3):=by refine Qj Z18.2 mixed rfl oN ?_;simp only[Z18,aInt,qH];push_cast;refine Q6 ?_;push_cast[Qi,cells4];refine Q5 (Zw h id it 3 ko ko) ?_;push_cast[aInt];exact oo
end Go.Proofs.YtelibaobkcokdaaGreat.Mx
namespace Go.Proofs.YtelibaobkcokdaaGreat.Mx.In
set_option linter.unusedSectionVars false
set_option linter.unusedVariables false
set_option linter.unusedSimpArgs false
open Go Go.Kx Go.Proofs Go.Proofs.YtelibaobkcokdaaGreat Go.Proofs.YtelibaobkcokdaaGreat.Mx
set_option linter.unusedSectionVars false
inductive Tg|hold|oth|psh|rgt|wok|got|mk|jn|lt
 deriving DecidableEq
inductive Pc|free|own (k:Nat) (t:Tg)|deq (j:Nat) (n:Int)|parked|nap|sync|pipe (l:Int)|below (c:Int)|fin
 deriving DecidableEq
def inq:DN→Bool
 | .mineF|.first|.claims|.finds|.backS|.carries|.leaveN|.mineL|.lessAgain|.looksAgain|.leaveT|.backP=>true
 | _=>false
def isPop:DN→Bool
 | .less|.looks|.takes|.restores|.askL|.mineL|.lessAgain|.looksAgain|.leaveT|.backP|.leaveN=>true
 | _=>false
def isPush:DN→Bool
 | .room|.lay|.grow|.nil=>true
 | _=>false
def isSteal:DN→Bool
 | .mineF|.first|.claims|.finds|.backS|.carries|.leaveN=>true
 | _=>false
attribute [grind] inq isPop isPush isSteal
def upd {α:Type} (f:Nat→α) (k:Nat) (v:α):Nat→α:=fun i=>if i=k then v else f i
def updI {α:Type} (f:Int→α) (k:Int) (v:α):Int→α:=fun i=>if i=k then v else f i
@[grind =] theorem upd_at {α:Type} (f:Nat→α) (k:Nat) (v:α) (i:Nat):upd f k v i=if i=k then v else f i:=rfl
@[grind =] theorem updI_at {α:Type} (f:Int→α) (k:Int) (v:α) (i:Int):updI f k v i=if i=k then v else f i:=rfl
def updS (f:Nat→Int→Int) (k:Nat) (c:Int) (v:Int):Nat→Int→Int:=fun i n=>if i=k∧n=c then v else f i n
@[grind =] theorem updS_at (f:Nat→Int→Int) (k:Nat) (c:Int) (v:Int) (i:Nat) (n:Int):updS f k c v i n=if i=k∧n=c then v else f i n:=rfl
structure Dv where
 who:Nat
 t:Int
 x:Int
 h:Int
 tn:Int
 nx:DN
 got:Bool
@[ext] structure DR where
 st:Nat→Int
 ta:Nat→Int
 dq:Nat→Dv
 hd:Nat→Int
 tl:Nat→Int
 nt:Nat→Int
 sv:Nat→Int
 sl:Nat→Int→Int
theorem ca {A:Prop} (h:A:=by first|exact a0|((try dsimp only);(try clear hI);grind)):A:=h
structure DQI (D:Int) (sI:Int→Int) (W:Nat) (r:DR) (P:Int→Pc) (H T:Nat→Int) (cl:Nat→Nat):Prop where
 rg:∀j,j < W→0≤H j∧H j≤T j∧T j≤H j+D:=by have a0:=h.rg;exact ca
 co:∀j,j < W→∀n,H j≤n→n < T j→P (r.sl j (sI n))=.deq j n:=by have a0:=h.co;exact ca
 o1:∀j,j < W→r.st j≠2→r.ta j=T j:=by have a0:=h.o1;exact ca
 o2:∀j,j < W→r.st j≠2→r.tl j=T j:=by have a0:=h.o2;exact ca
 o3:∀j,j < W→r.st j≠1→r.st j≠2→r.st j≠3→(r.dq j).nx=.nil:=by have a0:=h.o3;exact ca
 p0:∀j,j < W→r.st j=3→(r.dq j).who=j∧(r.dq j).t=T j∧isPush (r.dq j).nx=true:=by have a0:=h.p0;exact ca
 p1:∀j,j < W→r.st j=3→(r.dq j).nx=.lay∨(r.dq j).nx=.grow→T j < H j+D:=by have a0:=h.p1;exact ca
 p2:∀j,j < W→r.st j=3→(r.dq j).nx=.grow→r.sl j (sI (T j))=(r.dq j).x:=by have a0:=h.p2;exact ca
 q0:∀j,j < W→r.st j=2→(r.dq j).who=j∧isPop (r.dq j).nx=true:=by have a0:=h.q0;exact ca
 q1:∀j,j < W→r.st j=2→(r.dq j).nx=.takes∨(r.dq j).nx=.leaveT→(r.dq j).t=T j+1∧r.tl j=T j∧P (r.sl j (sI (T j)))=.own j .got:=by have a0:=h.q1;exact ca
 q2:∀j,j < W→r.st j=2→(r.dq j).nx≠.takes→(r.dq j).nx≠.leaveT→(r.dq j).t=T j:=by have a0:=h.q2;exact ca
 q3:∀j,j < W→r.st j=2→(r.dq j).nx=.looks∨(r.dq j).nx=.restores∨(r.dq j).nx=.looksAgain∨(r.dq j).nx=.backP→r.tl j=T j - 1:=by have a0:=h.q3;exact ca
 q4:∀j,j < W→r.st j=2→(r.dq j).nx=.less∨(r.dq j).nx=.askL∨(r.dq j).nx=.mineL∨(r.dq j).nx=.lessAgain∨(r.dq j).nx=.leaveN→r.tl j=T j:=by have a0:=h.q4;exact ca
 t0:∀i,i < W→r.st i=1→(r.dq i).who < W∧isSteal (r.dq i).nx=true:=by have a0:=h.t0;exact ca
 t1:∀i,i < W→r.st i=1→(r.dq i).nx=.claims→r.hd (r.dq i).who=H (r.dq i).who∧(r.dq i).h=H (r.dq i).who:=by have a0:=h.t1;exact ca
 t2:∀i,i < W→r.st i=1→(r.dq i).nx=.finds∨(r.dq i).nx=.backS→r.hd (r.dq i).who=H (r.dq i).who+1∧(r.dq i).h=H (r.dq i).who:=by have a0:=h.t2;exact ca
 t3:∀i,i < W→r.st i=1→(r.dq i).nx=.carries→(r.dq i).h+1=H (r.dq i).who∧r.hd (r.dq i).who=H (r.dq i).who∧P (r.sl (r.dq i).who (sI (r.dq i).h))=.own i .got∧0≤(r.dq i).h∧T (r.dq i).who≤(r.dq i).h+D:=by have a0:=h.t3;exact ca
 t4:∀i,i < W→r.st i=1→(r.dq i).nx=.carries→r.st (r.dq i).who=3→(r.dq (r.dq i).who).nx=.lay∨(r.dq (r.dq i).who).nx=.grow→T (r.dq i).who < (r.dq i).h+D:=by have a0:=h.t4;exact ca
 t5:∀i,i < W→r.st i=1→(r.dq i).nx=.leaveN→(r.dq i).got=true→P (r.dq i).x=.own i .got:=by have a0:=h.t5;exact ca
 t6:∀i,i < W→r.st i=1→(r.dq i).nx≠.leaveN→(r.dq i).got=false:=by have a0:=h.t6;exact ca
 t7:∀i,i < W→r.st i=2→(r.dq i).got=false:=by have a0:=h.t7;exact ca
 hx:∀j,j < W→r.hd j=H j∨r.hd j=H j+1∧cl j < W∧r.st (cl j)=1∧(r.dq (cl j)).who=j∧((r.dq (cl j)).nx=.finds∨(r.dq (cl j)).nx=.backS):=by have a0:=h.hx;exact ca
 k0:∀i,i < W→inq (r.dq i).nx=true→r.sv (r.dq i).who≤(r.dq i).tn∧(r.dq i).tn < r.nt (r.dq i).who:=by have a0:=h.k0;exact ca
 k2:∀i,i < W→inq (r.dq i).nx=true→(r.dq i).nx≠.mineF→(r.dq i).nx≠.mineL→(r.dq i).tn=r.sv (r.dq i).who:=by have a0:=h.k2;exact ca
 k1:∀i j,i < W→j < W→i≠j→inq (r.dq i).nx=true→inq (r.dq j).nx=true→(r.dq i).who=(r.dq j).who→(r.dq i).tn≠(r.dq j).tn:=by have a0:=h.k1;exact ca
variable {D:Int} {sI:Int→Int} {W:Nat} {r:DR} {P:Int→Pc} {H T:Nat→Int} {cl:Nat→Nat}
theorem DQI.tlT (h:DQI D sI W r P H T cl):∀j,j < W→r.tl j≤T j:=by
 have a0:=h.o2;have a1:=h.q0;have a2:=h.q1;have a3:=h.q3;have a4:=h.q4;intro j hj;by_cases c:r.st j=2
 ·obtain ⟨_,b⟩:=a1 j hj c;cases e:(r.dq j).nx<;>rw[e] at b<;>first|(cases b;done)|grind
 ·grind
theorem DQI.hdH (h:DQI D sI W r P H T cl):∀j,j < W→H j≤r.hd j∧r.hd j≤H j+1:=by intro j hj;rcases h.hx j hj with e|⟨e,_⟩<;>omega
theorem DQI.lk (h:DQI D sI W r P H T cl):∀k,k < W→r.st k=1→(r.dq k).nx=.first→r.hd (r.dq k).who=H (r.dq k).who:=by
 intro k hk hs hn;have a0:=h.t0 k hk hs;rcases h.hx _ a0.1 with e|⟨e,h1,h2,h3,h4⟩
 ·exact e
 ·have a1:=h.k1 k (cl (r.dq k).who) hk h1;have a2:=h.k2 k hk;have a3:=h.k2 (cl (r.dq k).who) h1;exfalso;rcases h4 with h4|h4<;>grind
set_option maxHeartbeats 2000000 in
theorem DQI.chP (h:DQI D sI W r P H T cl) {P':Int→Pc} (hp:∀id,P' id=P id∨(∀j n,P id≠.deq j n)∧∀i,P id≠.own i .got):
  DQI D sI W r P' H T cl:={}
set_option maxHeartbeats 2000000 in
theorem DQI.st (h:DQI D sI W r P H T cl) {k:Nat} (hk:k < W) (s:Int) (h1:r.st k≠1∧r.st k≠2∧r.st k≠3) (h2:s≠1∧s≠2∧s≠3):
  DQI D sI W { r with st:=upd r.st k s } P H T cl:={}
set_option maxHeartbeats 2000000 in
theorem DQI.begPop (h:DQI D sI W r P H T cl) {k:Nat} {d:Dv} (hk:k < W) (h1:r.st k≠1∧r.st k≠2∧r.st k≠3) (e1:d.who=k) (e2:d.t=r.ta k) (e3:d.nx=.less) (e4:d.got=false):
  DQI D sI W { r with st:=upd r.st k 2,dq:=upd r.dq k d } P H T cl:=by
 have yo1:=h.o1;have yo2:=h.o2;exact {}
set_option maxHeartbeats 2000000 in
theorem DQI.begPush (h:DQI D sI W r P H T cl) {k:Nat} {d:Dv} (hk:k < W) (h1:r.st k≠1∧r.st k≠2∧r.st k≠3) (e1:d.who=k) (e2:d.t=r.ta k) (e3:d.nx=.room):
  DQI D sI W { r with st:=upd r.st k 3,dq:=upd r.dq k d } P H T cl:=by
 have yo1:=h.o1;have yo2:=h.o2;exact {}
set_option maxHeartbeats 2000000 in
theorem DQI.begSteal (h:DQI D sI W r P H T cl) {k:Nat} {d:Dv} (hk:k < W) (h1:r.st k=0) (e1:d.who < W) (e2:d.tn=r.nt d.who) (e3:d.nx=.mineF) (e4:d.got=false) (e5:r.sv d.who≤r.nt d.who):
  DQI D sI W { r with st:=upd r.st k 1,dq:=upd r.dq k d,nt:=upd r.nt d.who (r.nt d.who+1) } P H T cl:=by
 have yo1:=h.o1;have yo2:=h.o2
 exact {
  k1:=by (try dsimp only);clear yo1 yo2;have a0:=h.k1;have a1:=h.o1;have a2:=h.o2;have a3:=h.k0;grind}
set_option maxHeartbeats 2000000 in
theorem DQI.less (h:DQI D sI W r P H T cl) {k:Nat} (hk:k < W) (hs:r.st k=2) (hn:(r.dq k).nx=.less):
  DQI D sI W { r with dq:=upd r.dq k { r.dq k with nx:=.looks },tl:=upd r.tl k ((r.dq k).t - 1) } P H T cl:=by
 have yo1:=h.o1;have yq2:=h.q2;exact {}
set_option maxHeartbeats 2000000 in
theorem DQI.looksY (h:DQI D sI W r P H T cl) {k:Nat} (hk:k < W) (hs:r.st k=2) (hn:(r.dq k).nx=.looks) (hc:r.hd k≤(r.dq k).t - 1):
  DQI D sI W { r with dq:=upd r.dq k { r.dq k with nx:=.takes } } (updI P (r.sl k (sI ((r.dq k).t - 1))) (.own k .got)) H (upd T k ((r.dq k).t - 1)) cl:=by
 have yhdH:=h.hdH;have yq2:=h.q2;have yrg:=h.rg;have yco:=h.co
 exact {
  q1:=by (try dsimp only);clear yhdH yq2 yrg yco;have a0:=h.q1;have a1:=h.q2;have a2:=h.hdH;have a3:=h.co;have a4:=h.rg;have a5:=h.q3;grind}
set_option maxHeartbeats 2000000 in
theorem DQI.looksAgainY (h:DQI D sI W r P H T cl) {k:Nat} (hk:k < W) (hs:r.st k=2) (hn:(r.dq k).nx=.looksAgain) (hc:r.hd k≤(r.dq k).t - 1):
  DQI D sI W { r with dq:=upd r.dq k { r.dq k with nx:=.leaveT } } (updI P (r.sl k (sI ((r.dq k).t - 1))) (.own k .got)) H (upd T k ((r.dq k).t - 1)) cl:=by
 have yhdH:=h.hdH;have yq2:=h.q2;have yrg:=h.rg;have yco:=h.co
 exact {
  q1:=by (try dsimp only);clear yhdH yq2 yrg yco;have a0:=h.q1;have a1:=h.q2;have a2:=h.hdH;have a3:=h.co;have a4:=h.rg;have a5:=h.q3;grind}
set_option maxHeartbeats 2000000 in
theorem DQI.looksN (h:DQI D sI W r P H T cl) {k:Nat} (hk:k < W) (hs:r.st k=2) (hn:(r.dq k).nx=.looks):
  DQI D sI W { r with dq:=upd r.dq k { r.dq k with nx:=.restores } } P H T cl:={}
set_option maxHeartbeats 2000000 in
theorem DQI.looksAgainN (h:DQI D sI W r P H T cl) {k:Nat} (hk:k < W) (hs:r.st k=2) (hn:(r.dq k).nx=.looksAgain):
  DQI D sI W { r with dq:=upd r.dq k { r.dq k with nx:=.backP } } P H T cl:={}
set_option maxHeartbeats 2000000 in
theorem DQI.restores (h:DQI D sI W r P H T cl) {k:Nat} (hk:k < W) (hs:r.st k=2) (hn:(r.dq k).nx=.restores):
  DQI D sI W { r with dq:=upd r.dq k { r.dq k with nx:=.askL },tl:=upd r.tl k (r.dq k).t } P H T cl:=by
 have yq2:=h.q2;exact {}
set_option maxHeartbeats 2000000 in
theorem DQI.askL (h:DQI D sI W r P H T cl) {k:Nat} (hk:k < W) (hs:r.st k=2) (hn:(r.dq k).nx=.askL) (e5:r.sv k≤r.nt k):
  DQI D sI W { r with dq:=upd r.dq k { r.dq k with tn:=r.nt k,nx:=.mineL },nt:=upd r.nt k (r.nt k+1) } P H T cl:=by
 have yq0:=h.q0
 exact {
  k1:=by (try dsimp only);clear yq0;have a0:=h.k1;have a1:=h.k0;have a2:=h.q0;grind}
set_option maxHeartbeats 2000000 in
theorem DQI.mineL (h:DQI D sI W r P H T cl) {k:Nat} (hk:k < W) (hs:r.st k=2) (hn:(r.dq k).nx=.mineL) (hc:r.sv k=(r.dq k).tn):
  DQI D sI W { r with dq:=upd r.dq k { r.dq k with nx:=.lessAgain } } P H T cl:={
  q3:=by (try dsimp only);have a0:=h.q3;have a1:=h.q2;grind
  k2:=by (try dsimp only);have a0:=h.k2;have a1:=h.q0;grind}
set_option maxHeartbeats 2000000 in
theorem DQI.lessAgain (h:DQI D sI W r P H T cl) {k:Nat} (hk:k < W) (hs:r.st k=2) (hn:(r.dq k).nx=.lessAgain):
  DQI D sI W { r with dq:=upd r.dq k { r.dq k with nx:=.looksAgain },tl:=upd r.tl k ((r.dq k).t - 1) } P H T cl:=by
 have yq2:=h.q2;exact {}
set_option maxHeartbeats 2000000 in
theorem DQI.leaveT (h:DQI D sI W r P H T cl) {k:Nat} (hk:k < W) (hs:r.st k=2) (hn:(r.dq k).nx=.leaveT):
  DQI D sI W { r with dq:=upd r.dq k { r.dq k with nx:=.takes },sv:=upd r.sv k ((r.dq k).tn+1) } P H T cl:={
  k0:=by (try dsimp only);have a0:=h.k0;have a1:=h.k1;have a2:=h.k2;have a3:=h.q0;grind
  k2:=by (try dsimp only);have a0:=h.k2;have a1:=h.k1;have a2:=h.k0;have a3:=h.q0;grind}
set_option maxHeartbeats 2000000 in
theorem DQI.backP (h:DQI D sI W r P H T cl) {k:Nat} (hk:k < W) (hs:r.st k=2) (hn:(r.dq k).nx=.backP):
  DQI D sI W { r with dq:=upd r.dq k { r.dq k with nx:=.leaveN },tl:=upd r.tl k (r.dq k).t } P H T cl:=by
 have yq2:=h.q2;exact {}
set_option maxHeartbeats 2000000 in
theorem DQI.leaveP (h:DQI D sI W r P H T cl) {k:Nat} (hk:k < W) (hs:r.st k=2) {e:Dv} (hn:(r.dq k).nx=.leaveN) (e1:e.nx=.nil):
  DQI D sI W { r with dq:=upd r.dq k e,sv:=upd r.sv k ((r.dq k).tn+1),st:=upd r.st k 0,ta:=upd r.ta k (r.dq k).t } P H T cl:={
  o1:=by (try dsimp only);have a0:=h.o1;have a1:=h.q2;grind
  o2:=by (try dsimp only);have a0:=h.o2;have a1:=h.q4;grind
  k0:=by (try dsimp only);have a0:=h.k0;have a1:=h.k1;have a2:=h.k2;have a3:=h.q0;grind
  k2:=by (try dsimp only);have a0:=h.k2;have a1:=h.k1;have a2:=h.k0;have a3:=h.q0;grind}
set_option maxHeartbeats 2000000 in
theorem DQI.takes (h:DQI D sI W r P H T cl) {k:Nat} (hk:k < W) (hs:r.st k=2) {e:Dv} (hn:(r.dq k).nx=.takes) (e1:e.nx=.nil) (s:Int) (h2:s≠1∧s≠2∧s≠3):
  DQI D sI W { r with dq:=upd r.dq k e,st:=upd r.st k s,ta:=upd r.ta k ((r.dq k).t - 1) } (updI P (r.sl k (sI ((r.dq k).t - 1))) (.own k .hold)) H T cl:=by
 have yq1:=h.q1;exact {}
set_option maxHeartbeats 2000000 in
theorem DQI.roomF (h:DQI D sI W r P H T cl) {k:Nat} (hk:k < W) (hs:r.st k=3) {e:Dv} (hn:(r.dq k).nx=.room) (e0:e.who=(r.dq k).who) (e1:e.nx=.nil) (e3:e.t=(r.dq k).t) :
  DQI D sI W { r with dq:=upd r.dq k e,ta:=upd r.ta k (r.dq k).t } P H T cl:={
  o1:=by (try dsimp only);have a0:=h.o1;have a1:=h.p0;grind}
set_option maxHeartbeats 2000000 in
theorem DQI.room (h:DQI D sI W r P H T cl) {k:Nat} (hk:k < W) (hs:r.st k=3) (hn:(r.dq k).nx=.room) (hc:(r.dq k).t - r.hd k < D - 1):
  DQI D sI W { r with dq:=upd r.dq k { r.dq k with nx:=.lay } } P H T cl:={
  p1:=by (try dsimp only);have a0:=h.p1;have a1:=h.hdH;have a2:=h.p0;grind
  t4:=by (try dsimp only);have a0:=h.t4;have a1:=h.t3;have a2:=h.p0;grind}
set_option maxHeartbeats 2000000 in
theorem DQI.lay (h:DQI D sI W r P H T cl) (hI:∀a b,0≤a→a≤b→b - a < D→sI a=sI b→a=b) {k:Nat} (hk:k < W) (hs:r.st k=3) (hn:(r.dq k).nx=.lay):
  DQI D sI W { r with dq:=upd r.dq k { r.dq k with nx:=.grow },sl:=updS r.sl k (sI (r.dq k).t) (r.dq k).x } P H T cl:=by
 have yp0:=h.p0;have yrg:=h.rg
 exact {
  co:=by (try dsimp only);clear yp0 yrg;have a0:=h.co;have a1:=h.rg;have a2:=h.p1;have a3:=h.p0;grind
  t3:=by (try dsimp only);clear yp0 yrg;have a0:=h.t3;have a1:=h.rg;have a2:=h.t4;have a3:=h.p0;grind}
set_option maxHeartbeats 2000000 in
theorem DQI.grow (h:DQI D sI W r P H T cl) {k:Nat} (hk:k < W) (hs:r.st k=3) {e:Dv} (hn:(r.dq k).nx=.grow) (e1:e.nx=.nil) (s:Int) (h2:s≠1∧s≠2∧s≠3) (hp:(∀j n,P (r.dq k).x≠.deq j n)∧∀i,P (r.dq k).x≠.own i .got):
  DQI D sI W { r with dq:=upd r.dq k e,st:=upd r.st k s,ta:=upd r.ta k ((r.dq k).t+1),tl:=upd r.tl k ((r.dq k).t+1) } (updI P (r.dq k).x (.deq k (r.dq k).t)) H (upd T k ((r.dq k).t+1)) cl:=by
 have yp0:=h.p0
 exact {
  rg:=by (try dsimp only);clear yp0;have a0:=h.rg;have a1:=h.p1;have a2:=h.p0;grind
  co:=by (try dsimp only);clear yp0;have a0:=h.co;have a1:=h.p2;have a2:=h.p0;grind
  t3:=by (try dsimp only);clear yp0;have a0:=h.t3;have a1:=h.t4;have a2:=h.p0;grind}
set_option maxHeartbeats 2000000 in
theorem DQI.mineF (h:DQI D sI W r P H T cl) {k:Nat} (hk:k < W) (hs:r.st k=1) (hn:(r.dq k).nx=.mineF) (hc:r.sv (r.dq k).who=(r.dq k).tn):
  DQI D sI W { r with dq:=upd r.dq k { r.dq k with nx:=.first } } P H T cl:={}
set_option maxHeartbeats 2000000 in
theorem DQI.first (h:DQI D sI W r P H T cl) {k:Nat} (hk:k < W) (hs:r.st k=1) (hn:(r.dq k).nx=.first):
  DQI D sI W { r with dq:=upd r.dq k { r.dq k with h:=r.hd (r.dq k).who,nx:=.claims } } P H T cl:={
  t1:=by (try dsimp only);have a0:=h.t1;have a1:=h.lk;grind
  hx:=by (try dsimp only);have a0:=h.hx;have a1:=h.k1;have a2:=h.k2;grind}
set_option maxHeartbeats 2000000 in
theorem DQI.claims (h:DQI D sI W r P H T cl) {k:Nat} (hk:k < W) (hs:r.st k=1) (hn:(r.dq k).nx=.claims):
  DQI D sI W { r with dq:=upd r.dq k { r.dq k with nx:=.finds },hd:=upd r.hd (r.dq k).who ((r.dq k).h+1) } P H T (upd cl (r.dq k).who k):=by
 have yk2:=h.k2;have yk1:=h.k1
 exact {
  t2:=by (try dsimp only);clear yk2 yk1;have a0:=h.t2;have a1:=h.t1;have a2:=h.k1;have a3:=h.k2;grind
  hx:=by (try dsimp only);clear yk2 yk1;have a0:=h.hx;have a1:=h.t1;grind}
set_option maxHeartbeats 2000000 in
theorem DQI.findsY (h:DQI D sI W r P H T cl) {k:Nat} (hk:k < W) (hs:r.st k=1) (hn:(r.dq k).nx=.finds) (hc:(r.dq k).h+1≤r.tl (r.dq k).who):
  DQI D sI W { r with dq:=upd r.dq k { r.dq k with nx:=.carries } } (updI P (r.sl (r.dq k).who (sI (r.dq k).h)) (.own k .got)) (upd H (r.dq k).who ((r.dq k).h+1)) T cl:=by
 have yt2:=h.t2;have yt0:=h.t0;have ytlT:=h.tlT;have yrg:=h.rg;have yk2:=h.k2;have yk1:=h.k1;have yco:=h.co
 exact {
  t4:=by (try dsimp only);clear yt2 yt0 ytlT yrg yk2 yk1 yco;have a0:=h.t4;have a1:=h.t2;have a2:=h.p1;have a3:=h.t0;grind}
set_option maxHeartbeats 2000000 in
theorem DQI.findsN (h:DQI D sI W r P H T cl) {k:Nat} (hk:k < W) (hs:r.st k=1) (hn:(r.dq k).nx=.finds):
  DQI D sI W { r with dq:=upd r.dq k { r.dq k with nx:=.backS } } P H T cl:={}
set_option maxHeartbeats 2000000 in
theorem DQI.backS (h:DQI D sI W r P H T cl) {k:Nat} (hk:k < W) (hs:r.st k=1) (hn:(r.dq k).nx=.backS):
  DQI D sI W { r with dq:=upd r.dq k { r.dq k with nx:=.leaveN },hd:=upd r.hd (r.dq k).who (r.dq k).h } P H T cl:=by
 have yk2:=h.k2;have yk1:=h.k1
 exact {
  t5:=by (try dsimp only);clear yk2 yk1;have a0:=h.t5;have a1:=h.t6;grind
  hx:=by (try dsimp only);clear yk2 yk1;have a0:=h.hx;have a1:=h.t2;have a2:=h.k1;have a3:=h.k2;grind}
set_option maxHeartbeats 2000000 in
theorem DQI.carries (h:DQI D sI W r P H T cl) {k:Nat} (hk:k < W) (hs:r.st k=1) (hn:(r.dq k).nx=.carries):
  DQI D sI W { r with dq:=upd r.dq k { r.dq k with x:=r.sl (r.dq k).who (sI (r.dq k).h),got:=true,nx:=.leaveN } } P H T cl:={
  t5:=by (try dsimp only);have a0:=h.t5;have a1:=h.t3;grind}
set_option maxHeartbeats 2000000 in
theorem DQI.leaveSN (h:DQI D sI W r P H T cl) {k:Nat} (hk:k < W) (hs:r.st k=1) {e:Dv} (hn:(r.dq k).nx=.leaveN) (e1:e.nx=.nil):
  DQI D sI W { r with dq:=upd r.dq k e,sv:=upd r.sv (r.dq k).who ((r.dq k).tn+1),st:=upd r.st k 0 } P H T cl:={
  k0:=by (try dsimp only);have a0:=h.k0;have a1:=h.k1;have a2:=h.k2;grind
  k2:=by (try dsimp only);have a0:=h.k2;have a1:=h.k1;have a2:=h.k0;grind}
set_option maxHeartbeats 2000000 in
theorem DQI.leaveSY (h:DQI D sI W r P H T cl) {k:Nat} (hk:k < W) (hs:r.st k=1) {e:Dv} (hn:(r.dq k).nx=.leaveN) (hg:(r.dq k).got=true) (e1:e.nx=.nil) (s:Int) (h2:s≠1∧s≠2∧s≠3):
  DQI D sI W { r with dq:=upd r.dq k e,sv:=upd r.sv (r.dq k).who ((r.dq k).tn+1),st:=upd r.st k s } (updI P (r.dq k).x (.own k .hold)) H T cl:=by
 have yt5:=h.t5
 exact {
  k0:=by (try dsimp only);clear yt5;have a0:=h.k0;have a1:=h.k1;have a2:=h.k2;grind
  k2:=by (try dsimp only);clear yt5;have a0:=h.k2;have a1:=h.k1;have a2:=h.k0;grind}
end Go.Proofs.YtelibaobkcokdaaGreat.Mx.In
