/- Serial: a run: the walk. -/
import Derived.Test.YtncdnegdlkmicaaGreatQSej
namespace Go.Proofs.YtncdnegdlkmicaaGreat
set_option linter.unusedVariables false
set_option linter.unusedSimpArgs false
open Go Go.Kx Go.Proofs
def Z21:SCode:=
 .seq (.reg (straight [⟨some 31,none,.pur (.bin .lss) [.tmp 30,.tmp 29]⟩]) [31])
 (.seq (.cond (.tmp 31) (.skip) (.exit 0))
 (.seq (.block 1 (.seq (.reg (straight [⟨some 32,none,.pur .mov [.tmp 30]⟩,⟨some 33,none,.pur (.ixa 1) [.tmp 28,.tmp 30]⟩,⟨some 34,none,.ld none (.tmp 33)⟩,⟨some 10,none,.pur .mov [.tmp 32]⟩,⟨some 11,none,.pur .mov [.tmp 34]⟩]) [10,11])
 (.reg (straight [⟨some 35,none,.pur .mov [.tmp 9]⟩,⟨some 36,none,.pur .nilc [.tmp 35]⟩,⟨some 37,none,.pur (.fla 3) [.tmp 36]⟩,⟨some 38,none,.ld none (.tmp 37)⟩,⟨some 39,none,.pur .mov [.tmp 10]⟩,⟨some 40,none,.pur .mov [.tmp 11]⟩,⟨some 41,none,.eff (.call 35) [.tmp 38,.tmp 39,.tmp 40]⟩]) [])))
 (.reg (straight [⟨some 42,none,.pur (.bin .add) [.tmp 30,.const (.int .i64 1)]⟩,⟨some 30,none,.pur .mov [.tmp 42]⟩]) [30])))
def Z22:SCode:=
 .seq (.reg (straight [⟨some 50,none,.pur (.bin .lss) [.tmp 49,.tmp 48]⟩]) [50])
 (.seq (.cond (.tmp 50) (.skip) (.exit 2))
 (.seq (.block 3 (.seq (.reg (straight [⟨some 51,none,.pur .mov [.tmp 9]⟩,⟨some 52,none,.eff (.call 37) [.tmp 51]⟩]) [])
 (.seq (.reg (straight [⟨some 53,none,.pur .mov [.tmp 9]⟩,⟨some 54,none,.pur .nilc [.tmp 53]⟩,⟨some 55,none,.pur (.fla 6) [.tmp 54]⟩,⟨some 56,none,.pur (.fla 0) [.tmp 55]⟩,⟨some 57,none,.ld none (.tmp 56)⟩,⟨some 58,none,.pur (.bin .neq) [.tmp 57,.const (.int .i64 0)]⟩]) [58])
 (.cond (.tmp 58) (.exit 2) (.skip)))))
 (.reg (straight [⟨some 59,none,.pur (.bin .add) [.tmp 49,.const (.int .i64 1)]⟩,⟨some 49,none,.pur .mov [.tmp 59]⟩]) [49])))
def Z13:Fun:=⟨78,[6,7,0,3,8,15,1,21,30,29,31,28,9,10,11,2,49,48,50,58,65],[.tmp 6,.tmp 7],
 .seq (.reg (straight [⟨some 3,none,.eff (.box 24) [.tmp 0]⟩,⟨some 6,none,.pur .mov [.const (.pointer none)]⟩,⟨some 7,none,.pur .mov [.const (.int .i64 0)]⟩]) [3,6,7])
 (.seq (.seq (.reg (straight [⟨some 12,none,.ld (some 2) (.tmp 3)⟩,⟨some 13,none,.eff (.call 33) [.tmp 12]⟩,⟨some 8,none,.pur .mov [.tmp 13]⟩]) [8])
 (.seq (.reg (straight [⟨some 14,none,.pur .mov [.tmp 8]⟩,⟨some 15,none,.pur (.bin .neq) [.tmp 14,.const (.int .i64 0)]⟩]) [15])
 (.cond (.tmp 15) (.seq (.reg (straight [⟨some 16,none,.pur .mov [.tmp 8]⟩,⟨some 6,none,.pur .mov [.const (.pointer none)]⟩,⟨some 7,none,.pur .mov [.tmp 16]⟩]) [6,7])
 (.ret)) (.skip))))
 (.seq (.seq (.reg (straight [⟨some 17,none,.pur .mov [.tmp 1]⟩,⟨some 18,none,.pur (.len false) [.tmp 17]⟩,⟨some 19,none,.pur (.fla 0) [.tmp 3]⟩,⟨some 20,none,.ld none (.tmp 19)⟩,⟨some 21,none,.pur (.bin .gtr) [.tmp 18,.tmp 20]⟩]) [21])
 (.cond (.tmp 21) (.seq (.reg (straight [⟨some 6,none,.pur .mov [.const (.pointer none)]⟩,⟨some 7,none,.pur .mov [.const (.int .i64 9)]⟩]) [6,7])
 (.ret)) (.skip)))
 (.seq (.reg (.run ⟨some 22,none,.ld (some 2) (.tmp 3)⟩ (.run ⟨some 23,none,.pur (.fla 0) [.tmp 3]⟩ (.run ⟨some 24,none,.ld none (.tmp 23)⟩ (.eff ⟨some 25,none,.eff (.call 34) [.tmp 24]⟩ [⟨some 22,none,.ld (some 2) (.tmp 3)⟩] (.run ⟨some 26,none,.pur (.bld [.int .i64 0,.slice none 0 0,.slice none 0 0,.pointer none,.slice none 0 0,.int .i64 0,.int .i64 0,.int .i64 0,.slice none 0 0,.slice none 0 0,.int .i64 0,.int .i64 0,.int .i64 0] [(0,2),(3,1)]) [.tmp 22,.tmp 25]⟩ (.eff ⟨some 27,none,.eff (.box 84) [.tmp 26]⟩ [] (.run ⟨some 9,none,.pur .mov [.tmp 27]⟩ .done))))))) [9])
 (.seq (.seq (.reg (straight [⟨some 28,none,.pur .mov [.tmp 1]⟩,⟨some 29,none,.pur (.len false) [.tmp 28]⟩,⟨some 30,none,.pur .mov [.const (.int .i64 0)]⟩]) [28,29,30])
 (.block 0 (.loop Z21)))
 (.seq (.reg (straight [⟨some 43,none,.pur .mov [.tmp 9]⟩,⟨some 44,none,.pur (.bld [.int .i64 0,.int .i64 0,.int .i64 0,.int .i64 0,.int .i64 0,.int .i64 0,.int .i64 0,.int .i64 0,.int .i64 0,.int .i64 0,.int .i64 0,.bool false,.int .i64 0,.int .i64 0,.int .i64 0] [(0,1)]) [.const (.int .i64 1)]⟩,⟨some 45,none,.eff (.call 36) [.tmp 43,.tmp 44]⟩]) [])
 (.seq (.seq (.reg (straight [⟨some 46,none,.pur .mov [.tmp 2]⟩,⟨some 47,none,.pur (.minmax true) [.tmp 46,.const (.int .i64 0)]⟩,⟨some 48,none,.pur (.minmax false) [.tmp 47,.const (.int .i64 100000)]⟩,⟨some 49,none,.pur .mov [.const (.int .i64 0)]⟩]) [48,49])
 (.block 2 (.loop Z22)))
 (.seq (.seq (.reg (straight [⟨some 60,none,.pur .mov [.tmp 9]⟩,⟨some 61,none,.pur .nilc [.tmp 60]⟩,⟨some 62,none,.pur (.fla 6) [.tmp 61]⟩,⟨some 63,none,.pur (.fla 0) [.tmp 62]⟩,⟨some 64,none,.ld none (.tmp 63)⟩,⟨some 65,none,.pur (.bin .eql) [.tmp 64,.const (.int .i64 0)]⟩]) [65])
 (.cond (.tmp 65) (.reg (straight [⟨some 66,none,.pur .mov [.tmp 9]⟩,⟨some 67,none,.eff (.call 38) [.tmp 66,.const (.int .i64 6),.const (.int .i64 0)]⟩]) []) (.skip)))
 (.seq (.reg (straight [⟨some 68,none,.pur .mov [.tmp 9]⟩,⟨some 69,none,.pur .mov [.tmp 9]⟩,⟨some 70,none,.pur .nilc [.tmp 69]⟩,⟨some 71,none,.pur (.fla 3) [.tmp 70]⟩,⟨some 72,none,.ld none (.tmp 71)⟩,⟨some 73,none,.eff (.call 39) [.tmp 72]⟩,⟨some 74,none,.pur .nilc [.tmp 68]⟩,⟨some 75,none,.pur (.fla 6) [.tmp 74]⟩,⟨some 76,none,.pur (.fla 3) [.tmp 75]⟩,⟨none,none,.eff (.st 1) [.tmp 76,.tmp 73]⟩]) [])
 (.seq (.reg (straight [⟨some 77,none,.pur .mov [.tmp 9]⟩,⟨some 6,none,.pur .mov [.tmp 77]⟩,⟨some 7,none,.pur .mov [.const (.int .i64 0)]⟩]) [6,7])
 (.ret))))))))))⟩
theorem XF:(compF Tryz.prog 21).map Fun.slim=some Z13:=by kernel_rfl
def evZ (m:Int) (n:Nat):List AV:=[.v (.int .i64 m),.ms 0 0 0 n 1,.sl 0 [] .nil,.ref 3 0 0,.sl 0 [] .nil,.v (.int .i64 0),.v (.int .i64 0),.v (.int .i64 0),.sl 0 [] .nil,.sl 0 [] .nil,.v (.int .i64 0),.v (.int .i64 0),.v (.int .i64 0)]
def evP (m:Int) (n:Nat):List AV:=[.v (.int .i64 m),.ms 0 0 0 n 1,.ms 6 0 0 1 15,.ref 3 0 0,.sl 0 [] .nil,.v (.int .i64 0),.v (.int .i64 0),.v (.int .i64 0),.sl 0 [] .nil,.sl 0 [] .nil,.v (.int .i64 0),.v (.int .i64 1),.v (.int .i64 1)]
theorem push_0 {m:Int} {n:Nat} {σ:Kx.St} (h5:σ.length=5) (he:σ[4]?=some (.obj 0 (evZ m n))) (f:Sf):
  FnG Tryz.prog 36 [.ref 4 0 0,.agg (aSf f)] σ fun _ σ'=>σ'=(σ++[Res.obj 0 (aSf f)]++[Res.obj 0 (aSf f)]).set 4 (.obj 0 (evP m n)):=by
 refine Qk Zd mixed rfl ?_
 simp only[Q20]
 have hac:(AV.agg (aSf f)).cells=aSf f:=rfl
 have z2:(evZ m n)[2]?=some (.sl 0 [] .nil):=rfl
 refine Q1 (fun ε σ1=>(ε 0=.ref 4 0 0∧ε 3=.ref 5 0 0)∧σ1=σ++[.obj 0 (aSf f)]) ?_ ?_
 ·intro N X R hN
  simp (maxSteps:=999999) -implicitDefEqProofs (disch:=omega) only[push_cast,↓reduceIte,Nat.reduceEqDiff,reduceCtorEq,wz]
  refine Qd ?_
  simp (maxSteps:=999999) -implicitDefEqProofs (disch:=omega) only[push_cast,↓reduceIte,Nat.reduceEqDiff,reduceCtorEq,wz,hac,h5]
  exact hN _ _ ⟨by simp (maxSteps:=999999) -implicitDefEqProofs (disch:=omega) only[push_cast,↓reduceIte,Nat.reduceEqDiff,reduceCtorEq,wz],rfl⟩
 rintro ε σ1 ⟨hρ,rfl⟩
 have hb:(σ++[Res.obj 0 (aSf f)])[5]?=some (.obj 0 (aSf f)):=by rw[←h5];exact Qc _ _
 have hn:(σ++[Res.obj 0 (aSf f)]).length=6:=by simp[h5]
 have he1:(σ++[Res.obj 0 (aSf f)])[4]?=some (.obj 0 (evZ m n)):=Q7 he
 generalize σ++[Res.obj 0 (aSf f)]=σ1 at hb hn he1
 have he2:=Q7 (τ:=[Res.obj 0 (aSf f)]) he1
 refine Q1 (fun ε σ2=>ε 0=.ref 4 0 0∧σ2=(σ1++[Res.obj 0 (aSf f)]).set 4 (.obj 0 ((evZ m n).set 2 (.ms 6 0 0 1 15)))) ?_ ?_
 ·intro N X R hN
  simp (maxSteps:=999999) -implicitDefEqProofs (disch:=omega) only[push_cast,↓reduceIte,Nat.reduceEqDiff,reduceCtorEq,wz,hρ,he1,z2,hb,cells15']
  refine Qf (sz:=15) (by intro a ha;simp at ha;subst ha;rfl) (by simp) ?_
  simp (maxSteps:=999999) -implicitDefEqProofs (disch:=omega) only[push_cast,↓reduceIte,Nat.reduceEqDiff,reduceCtorEq,wz,hρ,hac,List.append_nil]
  refine ⟨Q8 (by simp (maxSteps:=999999) -implicitDefEqProofs (disch:=omega) only[push_cast,↓reduceIte,Nat.reduceEqDiff,reduceCtorEq,wz,hρ,he1,z2];exact rfl),?_⟩
  refine X06 (m:=1) rfl rfl rfl (aSf_one f) (by omega) (by omega) (by omega) ?_
  simp (maxSteps:=999999) -implicitDefEqProofs (disch:=omega) only[push_cast,↓reduceIte,Nat.reduceEqDiff,reduceCtorEq,wz,hρ,hn]
  refine Q6 rfl rfl he2 (by simp[evZ]) ?_
  simp (maxSteps:=999999) -implicitDefEqProofs (disch:=omega) only[push_cast,↓reduceIte,Nat.reduceEqDiff,reduceCtorEq,wz]
  exact hN _ _ ⟨by simp (maxSteps:=999999) -implicitDefEqProofs (disch:=omega) only[push_cast,↓reduceIte,Nat.reduceEqDiff,reduceCtorEq,wz,hρ],rfl⟩
 clear hρ ε
 rintro ε σ2 ⟨hρ,rfl⟩
 have he3:=Q4 (o:=Res.obj 0 ((evZ m n).set 2 (.ms 6 0 0 1 15))) he2
 have z11:((evZ m n).set 2 (.ms 6 0 0 1 15))[6+5]?=some (.v (.int .i64 0)):=rfl
 have z11':((evZ m n).set 2 (.ms 6 0 0 1 15))[11]?=some (.v (.int .i64 0)):=rfl
 refine Q1 (fun ε σ3=>ε 0=.ref 4 0 0∧σ3=(σ1++[Res.obj 0 (aSf f)]).set 4 (.obj 0 (((evZ m n).set 2 (.ms 6 0 0 1 15)).set 11 (.v (.int .i64 1))))) ?_ ?_
 ·intro N X R hN
  simp (maxSteps:=999999) -implicitDefEqProofs (disch:=omega) only[push_cast,↓reduceIte,Nat.reduceEqDiff,reduceCtorEq,wz,hρ,he3,z11,z11']
  refine Q6 rfl rfl he3 (by simp[evZ]) ?_
  simp (maxSteps:=999999) -implicitDefEqProofs (disch:=omega) only[push_cast,↓reduceIte,Nat.reduceEqDiff,reduceCtorEq,wz]
  exact hN _ _ ⟨by simp (maxSteps:=999999) -implicitDefEqProofs (disch:=omega) only[push_cast,↓reduceIte,Nat.reduceEqDiff,reduceCtorEq,wz,hρ],by rw[List.set_set];rfl⟩
 clear hρ ε
 rintro ε σ3 ⟨hρ,rfl⟩
 have he4:=Q4 (o:=Res.obj 0 (((evZ m n).set 2 (.ms 6 0 0 1 15)).set 11 (.v (.int .i64 1)))) he2
 have y12:(((evZ m n).set 2 (.ms 6 0 0 1 15)).set 11 (.v (.int .i64 1)))[6+6]?=some (.v (.int .i64 0)):=rfl
 have y12':(((evZ m n).set 2 (.ms 6 0 0 1 15)).set 11 (.v (.int .i64 1)))[12]?=some (.v (.int .i64 0)):=rfl
 have y2:(((evZ m n).set 2 (.ms 6 0 0 1 15)).set 11 (.v (.int .i64 1)))[2]?=some (.ms 6 0 0 1 15):=rfl
 simp (maxSteps:=999999) -implicitDefEqProofs (disch:=omega) only[push_cast,↓reduceIte,Nat.reduceEqDiff,reduceCtorEq,wz,hρ,he4,y12,y12',y2]
 refine Q6 rfl rfl he4 (by simp[evZ]) ?_
 simp (maxSteps:=999999) -implicitDefEqProofs (disch:=omega) only[push_cast,↓reduceIte,Nat.reduceEqDiff,reduceCtorEq,wz]
 rw[List.set_set]
 rfl
theorem cellsPm (m:Int) (n:Nat):cellsA (some 2) [.v (.int .i64 m),.ms 0 0 0 n 1]=some (.agg [.v (.int .i64 m),.ms 0 0 0 n 1]):=rfl
theorem run_err (m:Int) (fs:List (List Ix)) (inp:List Int) (fuel:Int) (hf:okF fs) (hi:inp.length≤1000000) (he:runE m fs inp≠0):
  FnG Tryz.prog 21 [.agg (aPr m fs),aInts inp,aInt fuel] [] fun a σ'=>a=.tup [.v (.pointer none),aInt (runE m fs inp)]:=by
 refine Z11 XF mixed rfl ?_
 simp only[Z13]
 have hac:(AV.agg (aPr m fs)).cells=aPr m fs:=rfl
 have g0:(aPr m fs)[0]?=some (.v (.int .i64 m)):=rfl
 have hII:aInts inp=.sl inp.length (inp.map aInt) .none:=rfl
 refine Q1 (fun ε σ1=>(ε 1=aInts inp∧ε 3=.ref 0 0 0)∧σ1=[.obj 0 (aPr m fs)]) ?_ ?_
 ·intro N X R hN
  push_cast (disch:=omega)
  refine Qd ?_
  push_cast (disch:=omega)[hac]
  exact hN _ _ ⟨by push_cast (disch:=omega),rfl⟩
 rintro ε σ1 ⟨hρ,rfl⟩
 unfold runE at he ⊢
 by_cases c:prgE m fs=0
 ·rw[if_neg (by simpa using c)] at he ⊢
  have c2:m < inp.length:=by
   by_cases c2:m < inp.length
   ·exact c2
   ·rw[if_neg c2] at he;exact absurd rfl he
  rw[if_pos c2]
  refine Qg (fun ε σ1=>(ε 1=aInts inp∧ε 3=.ref 0 0 0)∧σ1=[.obj 0 (aPr m fs)]) ?_ ?_
  ·intro N hN
   push_cast (disch:=omega)[hρ,cellsPr]
   refine Q3 (Z36 m fs hf) ?_
   rintro a rfl
   rw[c]
   push_cast (disch:=omega)[aInt]
   exact hN _ _ ⟨by push_cast (disch:=omega)[hρ],rfl⟩
  clear hρ ε
  rintro ε σ1 ⟨hρ,rfl⟩
  push_cast (disch:=omega)[hρ,hII,g0,c2]
  first|exact trivial|rfl
 ·rw[if_pos c]
  push_cast (disch:=omega)[hρ,cellsPr]
  refine Q3 (Z36 m fs hf) ?_
  rintro a rfl
  push_cast (disch:=omega)[aInt,c]
  first|exact trivial|rfl
theorem Clone_int_o {i w:Nat} {σ:Kx.St} {d:List Int} (hd:d.length≤1000000) (hi:σ[i]?=some (.obj w (d.map aInt))):FnG Tryz.prog 68 [.ms i w 0 d.length 1] σ fun a σ'=>a=.sl d.length (d.map aInt) (.id σ.length 1 1)∧σ'=σ++[.tail 1]:=by
 refine Qk Z26 mixed rfl ?_
 simp only[Q42]
 have hsrc:srcA σ 1 (.ms i w 0 d.length 1)=some (d.length,d.map aInt):=by
  simp[srcA,hi,subA]
  try rw[List.take_of_length_le (by simp)]
 have h1:(d.map aInt).all AV.one=true:=by rw[List.all_map];exact List.all_eq_true.2 fun x _=>rfl
 push_cast (disch:=omega)
 refine Qf (sz:=1) (by simp) (by simp) ?_
 push_cast (disch:=omega)
 refine wpa_app_full (n:=0) (cs:=[]) (m:=d.length) rfl hsrc (by simp) h1 rfl (by omega) (by omega) ?_
 push_cast (disch:=omega)
 exact trivial
theorem store_All_o {σ:Kx.St} {d:List Int} (hd:d.length≤1000000) (hst:σ[3]?=some (.obj 0 [.ms 2 0 0 d.length 1,.v .nilFunc])) (hwd:σ[2]?=some (.obj 0 (d.map aInt))):
  FnG Tryz.prog 39 [.ref 3 0 0] σ fun a σ'=>a=.sl d.length (d.map aInt) (.id σ.length 1 1)∧σ'=σ++[.tail 1]:=by
 refine Qk XS mixed rfl ?_
 simp only[ZG]
 push_cast (disch:=omega)[hst]
 refine Q2 (Clone_int_o hd hwd) ?_
 rintro a σ' ⟨rfl,e1⟩
 rw[e1]
 push_cast (disch:=omega)
 exact trivial
def stZ (M:Nat) (fs:List (List Ix)) (d:List Int):Kx.St:=[.frz 0 (fs.map aIxs),.obj 0 [.v (.int .i64 M),.ms 0 0 0 fs.length 1],.obj 0 (d.map aInt),.obj 0 [.ms 2 0 0 M 1,.v .nilFunc],.obj 0 (evZ M fs.length)]
def f0:Sf:=⟨1,0,0,z8,false,0,0,0⟩
def stP (M:Nat) (fs:List (List Ix)) (d:List Int):Kx.St:=[.frz 0 (fs.map aIxs),.obj 0 [.v (.int .i64 M),.ms 0 0 0 fs.length 1],.obj 0 (d.map aInt),.obj 0 [.ms 2 0 0 M 1,.v .nilFunc],.obj 0 (evP M fs.length),.obj 0 (aSf f0),.obj 0 (aSf f0)]
def evT (m:Int) (n:Nat):List AV:=[.v (.int .i64 m),.ms 0 0 0 n 1,.ms 6 0 0 1 15,.ref 3 0 0,.sl 0 [] (.id 7 0 3),.v (.int .i64 0),.v (.int .i64 0),.v (.int .i64 0),.sl 0 [] (.id 8 0 1),.sl 0 [] .nil,.v (.int .i64 0),.v (.int .i64 1),.v (.int .i64 1)]
def stT (M:Nat) (fs:List (List Ix)) (d:List Int):Kx.St:=[.frz 0 (fs.map aIxs),.obj 0 [.v (.int .i64 M),.ms 0 0 0 fs.length 1],.obj 0 (d.map aInt),.obj 0 [.ms 2 0 0 M 1,.v .nilFunc],.obj 0 (evT M fs.length),.obj 0 (aSf f0),.obj 0 (aSf f0),.tail 0,.tail 0]
theorem gu_run (M:Nat) (fs:List (List Ix)) (d:List Int) (ε:AEnv):GU ε (stP M fs d) ε (stT M fs d):=
 GU.trans (GU.tokO (i:=4) (j:=4) (w:=0) (cs:=evP M fs.length) 3 rfl rfl) (GU.tokO (i:=4) (j:=8) (w:=0) (cs:=(evP M fs.length).set 4 (.sl 0 [] (.id 7 0 3))) 1 rfl rfl)
theorem ma_init (M:Nat) (fs:List (List Ix)) (inp:List Int) (h:inp.length≤M):MA M fs (stT M fs (inp++List.replicate (M - inp.length) 0)) 0 (initS M inp):=by
 have hd:(initS M inp).data=inp++List.replicate (M - inp.length) 0:=rfl
 refine ⟨rfl,rfl,?_,⟨0,0,rfl,rfl,rfl⟩,⟨aSf f0,rfl,(by show 1 * 15≤15;decide),rfl⟩⟩
 rw[hd,show (inp++List.replicate (M - inp.length) (0:Int)).length=M by simp;omega]
 rfl
structure At (m:Int) (fs:List (List Ix)) (F:Nat) (s0:Sv) (k:Nat) (s:Sv):Prop where
 go:loopS fs (F - k) s=loopS fs F s0
 wf:Wf fs s
 lim:Lim k m.toNat s
 st:s.status=0
def fuelN (fuel:Int):Nat:=(min (max fuel 0) 100000).toNat
set_option maxHeartbeats 16000000 in
theorem run_ok (m:Int) (fs:List (List Ix)) (inp:List Int) (fuel:Int) (hf:okF fs) (hp:prgE m fs=0) (hi:(inp.length:Int)≤m):
  FnG Tryz.prog 21 [.agg (aPr m fs),aInts inp,aInt fuel] [] fun a σ'=>a=.tup [.ref 4 0 0,aInt 0] ∧
   ∃w wm wo j,σ'[4]?=some (.obj 0 ((evC m fs.length w wm wo (runS m fs inp (fuelN fuel))).set 9 (.sl (runS m fs inp (fuelN fuel)).data.length ((runS m fs inp (fuelN fuel)).data.map aInt) (.id j 1 1)))):=by
 obtain ⟨hm,hmany,hfo⟩:=prg_ok hp
 have hn0:0 < fs.length:=by
  rcases Nat.eq_zero_or_pos fs.length with h|h
  ·rw[h] at hmany;exact absurd hmany (by decide)
  ·exact h
 have hF:Fns fs:=⟨hfo,hf.1⟩
 show FnG _ _ (.agg [.v (.int .i64 m),.sl fs.length (fs.map aIxs) .none]::[aInts inp,aInt fuel]) [] _
 refine FnG.pin (sz:=1) hn0 ?_
 show FnG _ _ (.agg [.v (.int .i64 m),.ms 0 0 0 fs.length 1]::[aInts inp,aInt fuel]) [.frz 0 (fs.map aIxs)] _
 refine Z11 XF mixed rfl ?_
 simp only[Z13]
 have hac:(AV.agg [.v (.int .i64 m),.ms 0 0 0 fs.length 1]).cells=[.v (.int .i64 m),.ms 0 0 0 fs.length 1]:=rfl
 have hII:aInts inp=.sl inp.length (inp.map aInt) .none:=rfl
 obtain ⟨M,rfl⟩:∃M:Nat,m=M:=⟨m.toNat,by omega⟩
 refine Q1 (fun ε σ1=>(ε 1=aInts inp∧ε 2=.v (.int .i64 fuel)∧ε 3=.ref 1 0 0)∧σ1=[.frz 0 (fs.map aIxs),.obj 0 [.v (.int .i64 M),.ms 0 0 0 fs.length 1]]) ?_ ?_
 ·intro N X R hN
  push_cast (disch:=omega)
  refine Qd ?_
  push_cast (disch:=omega)[hac]
  exact hN _ _ ⟨by push_cast (disch:=omega)[aInt],rfl⟩
 rintro ε σ1 ⟨hρ,rfl⟩
 refine Qg (fun ε σ1=>(ε 1=aInts inp∧ε 2=.v (.int .i64 fuel)∧ε 3=.ref 1 0 0)∧σ1=[.frz 0 (fs.map aIxs),.obj 0 [.v (.int .i64 M),.ms 0 0 0 fs.length 1]]) ?_ ?_
 ·intro N hN
  push_cast (disch:=omega)[hρ,cellsPm]
  refine Q00 [] [true] (Z36 M fs hf) ?_ ?_
  ·have hr:AV.res [.frz 0 (fs.map aIxs),.obj 0 [.v (.int .i64 M),.ms 0 0 0 fs.length 1]] (.ms 0 0 0 fs.length 1)=.sl fs.length (fs.map aIxs) .none:=X83 rfl (by simp)
   rw[fzn]
   show [AV.agg [AV.v (.int .i64 M),AV.res _ (.ms 0 0 0 fs.length 1)]]=_
   rw[hr]
   rfl
  rintro a rfl
  rw[hp,fzn]
  push_cast (disch:=omega)[aInt]
  exact hN _ _ ⟨by push_cast (disch:=omega)[hρ],rfl⟩
 clear hρ ε
 rintro ε σ1 ⟨hρ,rfl⟩
 refine Qg (fun ε σ1=>(ε 1=aInts inp∧ε 2=.v (.int .i64 fuel)∧ε 3=.ref 1 0 0)∧σ1=[.frz 0 (fs.map aIxs),.obj 0 [.v (.int .i64 M),.ms 0 0 0 fs.length 1]]) ?_ ?_
 ·intro N hN
  have c2:¬(M:Int) < inp.length:=by omega
  push_cast (disch:=omega)[hρ,hII,c2]
  exact hN _ _ ⟨by push_cast (disch:=omega)[hρ,hII],rfl⟩
 clear hρ ε
 rintro ε σ1 ⟨hρ,rfl⟩
 have hfill:fillA [AV.v (.int .i64 0),.sl 0 [] .nil,.sl 0 [] .nil,AV.v (.pointer none),.sl 0 [] .nil,AV.v (.int .i64 0),AV.v (.int .i64 0),AV.v (.int .i64 0),.sl 0 [] .nil,.sl 0 [] .nil,AV.v (.int .i64 0),AV.v (.int .i64 0),AV.v (.int .i64 0)]
  [(0,2),(3,1)] [.agg [.v (.int .i64 M),.ms 0 0 0 fs.length 1],.ref 3 0 0]=some (evZ M fs.length):=rfl
 have hzc:(AV.agg (evZ M fs.length)).cells=evZ M fs.length:=rfl
 refine Q1 (fun ε σ1=>(ε 1=aInts inp∧ε 2=.v (.int .i64 fuel)∧ε 9=.ref 4 0 0)∧σ1=stZ M fs (List.replicate M 0)) ?_ ?_
 ·intro N X R hN
  push_cast (disch:=omega)[hρ,cellsPm]
  refine Q2 (store_New_o M hm.1 hm.2 _) ?_
  rintro a σ' ⟨rfl,e1⟩
  rw[e1]
  push_cast (disch:=omega)[hρ,cellsPm,hfill]
  refine ⟨Q8 (by push_cast (disch:=omega)[hρ,cellsPm];exact rfl),?_⟩
  refine Qd ?_
  push_cast (disch:=omega)[hzc]
  exact hN _ _ ⟨by push_cast (disch:=omega)[hρ],rfl⟩
 clear hρ ε
 rintro ε σ1 ⟨hρ,rfl⟩
 have hiM:inp.length≤M:=by omega
 refine Q1 (fun ε σ1=>(ε 2=.v (.int .i64 fuel)∧ε 9=.ref 4 0 0)∧σ1=stZ M fs (inp++List.replicate (M - inp.length) 0)) ?_ ?_
 ·intro N X R hN
  push_cast (disch:=omega)[hρ,hII]
  refine XR (α:=Nat) (I:=fun k ε σ=>(ε 2=.v (.int .i64 fuel)∧ε 9=.ref 4 0 0∧ε 28=.sl inp.length (inp.map aInt) .none∧ε 29=.v (.int .i64 inp.length)∧ε 30=.v (.int .i64 k))∧k≤inp.length∧σ=stZ M fs (inp.take k++List.replicate (M - k) 0))
   (μ:=fun k=>inp.length - k) (Q:=fun ε σ=>(ε 2=.v (.int .i64 fuel)∧ε 9=.ref 4 0 0)∧σ=stZ M fs (inp++List.replicate (M - inp.length) 0)) (x:=0) ?_ ?_ ?_
  ·push_cast (disch:=omega)[hρ]
   exact ⟨by omega,rfl⟩
  ·rintro k ε σ N E X' R' ⟨hρ,hk,rfl⟩ hN hE
   simp only[Z21]
   by_cases hlt:k < inp.length
   ·obtain ⟨v,hv⟩:=Ql hlt
    have hdl:(inp.take k++List.replicate (M - k) (0:Int)).length=M:=by simp;omega
    have z3:(stZ M fs (inp.take k++List.replicate (M - k) 0))[4]?=some (.obj 0 (evZ M fs.length)):=rfl
    have z33:(evZ M fs.length)[3]?=some (.ref 3 0 0):=rfl
    push_cast (disch:=omega)[hρ,hv,aInt,z3,z33]
    refine Q2 (XC (d:=inp.take k++List.replicate (M - k) 0) (by rw[hdl];rfl) rfl k v) ?_
    rintro a σ' ⟨rfl,e1⟩
    rw[e1]
    have ea:(askD (inp.take k++List.replicate (M - k) 0) ⟨2,k,v,0,0⟩).2.2=inp.take (k+1)++List.replicate (M - (k+1)) 0:=by
     have hc:¬((k:Int) < 0∨((inp.take k++List.replicate (M - k) (0:Int)).length:Int)≤k):=by rw[hdl];omega
     have:(askD (inp.take k++List.replicate (M - k) 0) ⟨2,k,v,0,0⟩).2.2=(inp.take k++List.replicate (M - k) 0).set k v:=by simp only[askD];rw[if_neg hc];simp
     rw[this,Qe hv,show M - k=(M - (k+1))+1 by omega,List.replicate_succ,List.set_append_right _ _ (by simp;omega)]
     simp[Nat.min_eq_left (Nat.le_of_lt hlt)]
    rw[ea]
    push_cast (disch:=omega)[hρ]
    refine hN (k+1) _ _ ?_ (by omega)
    push_cast (disch:=omega)[hρ]
    exact ⟨by omega,rfl⟩
   ·have e2:k=inp.length:=by omega
    subst e2
    push_cast (disch:=omega)[hρ]
    refine hE _ _ ?_
    push_cast (disch:=omega)[hρ]
    rw[List.take_length]
  ·rintro ε σ h
   exact hN _ _ h
 clear hρ ε
 rintro ε σ1 ⟨hρ,rfl⟩
 have hfillf:fillA [AV.v (.int .i64 0),AV.v (.int .i64 0),AV.v (.int .i64 0),AV.v (.int .i64 0),AV.v (.int .i64 0),AV.v (.int .i64 0),AV.v (.int .i64 0),AV.v (.int .i64 0),AV.v (.int .i64 0),AV.v (.int .i64 0),AV.v (.int .i64 0),AV.v (.bool false),AV.v (.int .i64 0),AV.v (.int .i64 0),AV.v (.int .i64 0)]
  [(0,1)] [.v (.int .i64 1)]=some (aSf f0):=rfl
 have hdl:(inp++List.replicate (M - inp.length) (0:Int)).length=M:=by simp;omega
 refine Q1 (fun ε σ1=>(ε 2=.v (.int .i64 fuel)∧ε 9=.ref 4 0 0)∧σ1=stP M fs (inp++List.replicate (M - inp.length) 0)) ?_ ?_
 ·intro N X R hN
  push_cast (disch:=omega)[hρ,hfillf]
  refine Q2 (push_0 (m:=M) (n:=fs.length) rfl rfl f0) ?_
  rintro a σ' e1
  rw[e1]
  push_cast (disch:=omega)
  exact hN _ _ ⟨by push_cast (disch:=omega)[hρ],rfl⟩
 clear hρ ε
 rintro ε σ1 ⟨hρ,rfl⟩
 have hMA:=ma_init M fs inp hiM
 have hW0:=init_wf hF hn0 M inp
 have hL0:=Yj M inp hi
 have hFd:(fuelN fuel:Int)=min (max fuel 0) 100000:=by unfold fuelN;omega
 have hFl:fuelN fuel≤100000:=by unfold fuelN;omega
 have hrun:runS M fs inp (fuelN fuel)=finS (loopS fs (fuelN fuel) (initS M inp)):=rfl
 rw[hrun]
 have hs0:(initS M inp).status=0:=rfl
 clear hrun
 generalize initS M inp=s0 at hMA hW0 hL0 hs0 ⊢
 generalize fuelN fuel=F at hFd hFl ⊢
 refine Q1 (fun ε σ=>ε 9=.ref 4 0 0∧∃w,MA M fs σ w (loopS fs F s0)) ?_ ?_
 ·intro N X R hN
  push_cast (disch:=omega)[hρ]
  rw[←hFd]
  refine wpa_blgx (gu_run M fs (inp++List.replicate (M - inp.length) 0) _) (α:=Nat) (I:=fun k ε σ=>(ε 9=.ref 4 0 0∧ε 48=.v (.int .i64 F)∧ε 49=.v (.int .i64 k))∧k≤F∧∃w s,MA M fs σ w s∧At M fs F s0 k s)
   (μ:=fun k=>F - k) (Q:=fun ε σ=>ε 9=.ref 4 0 0∧∃w,MA M fs σ w (loopS fs F s0)) (x:=0) ?_ ?_ ?_
  ·push_cast (disch:=omega)[hρ]
   exact ⟨by omega,0,s0,hMA,⟨rfl,hW0,hL0,hs0⟩⟩
  ·rintro k ε σ N E X' R' ⟨hρ,hk,w,s,hM,hA⟩ hN hE
   simp only[Z22]
   have hL:=hA.lim
   have b1:=hL.marks
   have b2:=hL.out
   have b3:=hL.len
   by_cases hlt:k < F
   ·push_cast (disch:=omega)[hρ]
    refine Q2 (eval_one_a hF hA.wf hM (by omega) (by omega) (by omega)) ?_
    rintro a σ' ⟨w',hM',_⟩
    obtain ⟨wm,wo,he,_,_⟩:=hM'.ev
    have hgo:loopS fs (F - k) s=if (oneS fs s).status≠0 then oneS fs s else loopS fs (F - (k+1)) (oneS fs s):=by
     rw[show F - k=(F - (k+1))+1 by omega];rfl
    by_cases hs:(oneS fs s).status=0
    ·rw[if_neg (by simpa using hs),hA.go] at hgo
     push_cast (disch:=omega)[hρ,he,ev6,hs]
     refine hN (k+1) _ _ ?_ (by omega)
     push_cast (disch:=omega)[hρ]
     exact ⟨by omega,w',oneS fs s,hM',⟨hgo.symm,wf_one hF hA.wf,(one_lim hL (by omega)).1,hs⟩⟩
    ·rw[if_pos hs,hA.go] at hgo
     push_cast (disch:=omega)[hρ,he,ev6,hs]
     refine hE _ _ ?_
     push_cast (disch:=omega)[hρ]
     exact ⟨w',by rw[hgo];exact hM'⟩
   ·have e2:k=F:=by omega
    subst e2
    have hgo:=hA.go
    rw[Nat.sub_self] at hgo
    push_cast (disch:=omega)[hρ]
    refine hE _ _ ?_
    push_cast (disch:=omega)[hρ]
    exact ⟨w,by rw[←hgo];exact hM⟩
  ·rintro ε σ h
   exact hN _ _ h
 clear hρ ε
 rintro ε σ ⟨hρ,w,hM⟩
 obtain ⟨k',_,hL'⟩:=loop_lim (fs:=fs) F 0 s0 hL0 (by omega)
 have hdat:=hL'.data
 clear hMA hW0 hL0 hs0 hL'
 generalize loopS fs F s0=s at hM hdat ⊢
 refine Q1 (fun ε σ=>ε 9=.ref 4 0 0∧MA M fs σ w (finS s)) ?_ ?_
 ·intro N X R hN
  obtain ⟨wm,wo,he,_,_⟩:=hM.ev
  unfold finS at hN
  by_cases hs:s.status=0
  ·rw[if_pos hs] at hN
   push_cast (disch:=omega)[hρ,he,ev6,hs]
   refine Q2 (QN hM 6 0) ?_
   rintro a σ' ⟨h3,_⟩
   push_cast (disch:=omega)
   exact hN _ _ ⟨by push_cast (disch:=omega)[hρ],h3⟩
  ·rw[if_neg hs] at hN
   push_cast (disch:=omega)[hρ,he,ev6,hs]
   exact hN _ _ ⟨by push_cast (disch:=omega)[hρ],hM⟩
 clear hρ ε
 rintro ε σ ⟨hρ,hM⟩
 have hdat':(finS s).data.length=M:=by
  have:(finS s).data=s.data:=by unfold finS;split<;>rfl
  rw[this,hdat];simp
 clear hdat
 generalize finS s=s at hM hdat' ⊢
 obtain ⟨wm,wo,he,_,_⟩:=hM.ev
 refine Q1 (fun ε σ'=>ε 9=.ref 4 0 0∧σ'=(σ++[Res.tail 1]).set 4 (.obj 0 ((evC M fs.length w wm wo s).set 9 (.sl s.data.length (s.data.map aInt) (.id σ.length 1 1))))) ?_ ?_
 ·intro N X R hN
  push_cast (disch:=omega)[hρ,he,ev3]
  refine Q2 (store_All_o (by omega) hM.st hM.wd) ?_
  rintro a σ' ⟨rfl,e1⟩
  rw[e1]
  push_cast (disch:=omega)[hρ]
  refine Q6 rfl rfl (Q7 he) (by simp[evC]) ?_
  push_cast (disch:=omega)
  exact hN _ _ ⟨by push_cast (disch:=omega)[hρ],rfl⟩
 clear hρ ε
 rintro ε σ' ⟨hρ,rfl⟩
 push_cast (disch:=omega)[hρ]
 exact ⟨rfl,w,wm,wo,σ.length,Q4 (Q7 he)⟩
end Go.Proofs.YtncdnegdlkmicaaGreat
