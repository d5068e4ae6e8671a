/- The machine: what begins. -/
import Derived.Test.YtelibaobkcokdaaGreatQU2Mxb
namespace Go.Proofs.YtelibaobkcokdaaGreat.Mx
set_option linter.unusedVariables false
set_option linter.unusedSimpArgs false
open Go Go.Kx Go.Proofs Go.Proofs.YtelibaobkcokdaaGreat
set_option maxRecDepth 8000
theorem rep_v (x:Value) (n:Nat):repA ([x].map abs1) n=List.replicate n (abs1 x):=by
 rw[List.map_singleton,repA_one]
theorem J13 {n:Nat} (hn:n≤1048576) (σ:Kx.St):FnG Tryz.prog 79 [aInt n] σ fun a σ'=>a=.ref (σ.length+1) 0 0∧σ'=σ++[.obj 0 ((List.replicate n (0:Int)).map aInt),.obj 0 [.ms σ.length 0 0 n 1,.v .nilFunc]]:=by
 refine Q2 K_store_New mixed rfl ?_
 simp only[Ju,aInt]
 have e:min (max (n:Int) 0) 1048576=n:=by omega
 have hb:fillA [.sl 0 [] .nil,.v .nilFunc] [(0,1)] [.ms σ.length 0 0 n 1]=some [.ms σ.length 0 0 n 1,.v .nilFunc]:=by simp[fillA,AV.cells,setAtA]
 push_cast (maxSteps:=999999) -implicitDefEqProofs (disch:=omega)[e]
 refine J78 rfl (by omega) (by omega) ?_
 push_cast (maxSteps:=999999) -implicitDefEqProofs (disch:=omega)[hb]
 refine Qn ?_
 have e1:repA ([Value.int .i64 0].map abs1) n=(List.replicate n (0:Int)).map aInt:=by rw[rep_v,List.map_replicate];rfl
 push_cast (maxSteps:=999999) -implicitDefEqProofs (disch:=omega)[List.length_append]
 rw[show [AV.v (Value.int IntKind.i64 0)]=[Value.int IntKind.i64 0].map abs1 from rfl,e1,List.append_assoc]
 exact rfl
theorem sink_New_a {n:Int} (h0:0≤n) (hn:n≤1000) (σ:Kx.St):FnG Tryz.prog 82 [aInt n] σ fun a σ'=>a=.ref σ.length 0 0∧σ'=σ++[.obj 0 [.sl 0 [] .nil,.v (.int .i64 n)]]:=by
 refine Q2 K_sink_New mixed rfl ?_
 simp only[J59,aInt]
 have e:min (max n 0) 1000=n:=by omega
 have hb:fillA [.sl 0 [] .nil,.v (.int .i64 0)] [(1,1)] [.v (.int .i64 n)]=some [.sl 0 [] .nil,.v (.int .i64 n)]:=by simp[fillA,AV.cells,Value.cells,setAtA]
 push_cast (maxSteps:=999999) -implicitDefEqProofs (disch:=omega)[e,hb]
 refine Qn ?_
 push_cast (maxSteps:=999999) -implicitDefEqProofs (disch:=omega)
 exact trivial
theorem log_New_a (σ:Kx.St):FnG Tryz.prog 83 [] σ fun a σ'=>a=.ref σ.length 0 0∧σ'=σ++[.obj 0 [.sl 0 [] .nil]]:=by
 refine Q2 K_log_New mixed rfl ?_
 simp only[S_log_New]
 push_cast (maxSteps:=999999) -implicitDefEqProofs (disch:=omega)
 refine Qn ?_
 push_cast (maxSteps:=999999) -implicitDefEqProofs (disch:=omega)
 exact trivial
theorem J14 {n:Nat} (hn:n≤1000) (σ:Kx.St):FnG Tryz.prog 134 [aInt n] σ fun a σ'=>a=.ref (σ.length+1) 0 0∧σ'=σ++[.obj 0 ((List.replicate (n+1) false).map aBool),.obj 0 (aAr σ.length (List.replicate (n+1) false) (aBk none []) 0 0)]:=by
 refine Q2 K_arena_New mixed rfl ?_
 simp only[JZ,aInt]
 have e:min (max (n:Int) 0) 1000=n:=by omega
 have e2:IntKind.i64.wrap ((n:Int)+1)=((n+1:Nat):Int):=by rw[w64_id (by omega) (by omega)];omega
 push_cast (maxSteps:=999999) -implicitDefEqProofs (disch:=omega)[e,e2]
 refine J78 (n:=n+1) rfl (by omega) (by omega) ?_
 have hb:fillA [.sl 0 [] .nil,.sl 0 [] .nil,.v (.int .i64 0),.v (.int .i64 0)] [(0,1)] [.ms σ.length 0 0 (n+1) 1]=some [.ms σ.length 0 0 (n+1) 1,.sl 0 [] .nil,.v (.int .i64 0),.v (.int .i64 0)]:=by simp[fillA,AV.cells,Value.cells,setAtA]
 push_cast (maxSteps:=999999) -implicitDefEqProofs (disch:=omega)[hb]
 refine Qn ?_
 push_cast (maxSteps:=999999) -implicitDefEqProofs (disch:=omega)
 have e1:repA [AV.v (Value.bool false)] (n+1)=(List.replicate (n+1) false).map aBool:=by rw[show [AV.v (Value.bool false)]=[Value.bool false].map abs1 from rfl,rep_v,List.map_replicate];rfl
 rw[e1,List.append_assoc]
 exact ⟨by simp,by simp[aAr,aBk]⟩
theorem worker_New_a (n:Int) (σ:Kx.St):FnG Tryz.prog 15 [.v (.int .i64 n)] σ fun a σ'=>a=.ref σ.length 0 0∧∀pl k,σ'=σ++[.obj 0 (aWk pl k (wkNew n))]:=by
 refine Q2 K_worker_New mixed rfl ?_
 simp only[Y72]
 have hb:fillA [AV.v (Value.int IntKind.i64 0),AV.v (Value.int IntKind.i64 0),AV.v (Value.int IntKind.i64 0),
     AV.v (Value.int IntKind.i64 0),AV.v (Value.int IntKind.i64 0),AV.v (Value.pointer none),AV.v Value.nilFunc,
     AV.v (Value.int IntKind.i64 0),AV.v (Value.int IntKind.i64 0),AV.v (Value.bool false),
     AV.v (Value.bool false),AV.v (Value.int IntKind.i64 0),AV.v (Value.bool false),AV.v (Value.bool false),
     AV.v (Value.int IntKind.i64 0),AV.v (Value.bool false),AV.v (Value.pointer none),AV.v (Value.pointer none),
     AV.v (Value.pointer none),AV.v (Value.pointer none)] [(0,1)] [.v (.int .i64 n)]=some (aWk ⟨fun _=>0,none,none,none,.nil⟩ 0 (wkNew n)):=by simp[fillA,AV.cells,Value.cells,setAtA,aWk,wkNew,aPtr,aTh]
 push_cast (maxSteps:=999999) -implicitDefEqProofs (disch:=omega)[hb]
 refine Qn ?_
 push_cast (maxSteps:=999999) -implicitDefEqProofs (disch:=omega)
 exact fun pl k=>by simp[aWk,wkNew,aPtr,aTh]
theorem aIx_one (l:List Ix):(l.flatMap aIx).all AV.one=true:=by
 rw[List.all_flatMap];simp only[show ∀x,(aIx x).all AV.one=true from fun x=>rfl];simp
theorem Clone_o (l:List Ix) (h0:0 < l.length) (hl:l.length≤300) (σ:Kx.St):FnG Tryz.prog 84 [aIxs l] σ fun a σ'=>a=.ms σ.length 1 0 l.length 4∧σ'=σ++[.obj 1 (l.flatMap aIx)]:=by
 refine Q2 Q75 mixed rfl ?_
 simp only[QQ]
 have hIL:aIxs l=.sl l.length (l.flatMap aIx) .none:=rfl
 have hnil:PF.av (.eqn false 1) [.sl l.length (l.flatMap aIx) .none]=some (.v (.bool false)):=by
  show (if l.length=0 then none else some _)=_
  rw[if_neg (by omega)]
 have hfl:=Q28 X83 l
 push_cast (maxSteps:=999999) -implicitDefEqProofs (disch:=omega)[hIL,hnil]
 refine wpa_bslo (sz:=4) (by simp) (by simp) ?_
 push_cast (maxSteps:=999999) -implicitDefEqProofs (disch:=omega)
 refine J44 (n:=0) (m:=l.length) rfl rfl hfl (aIx_one l) (by simp) (by omega) (by omega) (Qc _ _) ?_
 push_cast (maxSteps:=999999) -implicitDefEqProofs (disch:=omega)[Qq]
 exact trivial
theorem aIxL_res (σ:St) (l:List Ix):AV.resL σ (l.flatMap aIx)=l.flatMap aIx:=by
 induction l with
 | nil=>rfl
 | cons x l ih=>
  rw[Q05] at ih ⊢
  rw[List.flatMap_cons,List.map_append,ih]
  congr 1
theorem res_ixs {σ:Kx.St} {i w:Nat} {l:List Ix} (h:σ[i]?=some (.obj w (l.flatMap aIx))):AV.res (Go.Kx.freeze [i] σ) (.ms i w 0 l.length 4)=aIxs l:=by
 rw[freeze_one h (aIxL_res _ _),res_ms (Qa h) (Q28 X83 l)]
 rfl
theorem Clone_a (l:List Ix) (h0:0 < l.length) (hl:l.length≤300):FnP Tryz.prog 84 [aIxs l] fun a=>a=aIxs l:=by
 refine ⟨by simp[AV.pureL,Yg],FnG.fz ?_⟩
 refine (Clone_o l h0 hl []).mono ?_
 rintro a σ' ⟨rfl,rfl⟩
 refine ⟨[0],?_,?_⟩
 ·have:=res_ixs (σ:=[.obj 1 (l.flatMap aIx)]) (i:=0) (w:=1) (l:=l) rfl
  show (AV.res _ (.ms 0 1 0 l.length 4)).pure=true
  rw[List.nil_append,this]
  exact Yg l
 ·exact res_ixs (σ:=[.obj 1 (l.flatMap aIx)]) (i:=0) (w:=1) (l:=l) rfl
set_option maxHeartbeats 8000000 in
def planB (q:Pm):Bool:=decide (q.W=cl q.W 1 64∧q.F=cl q.F 1 256∧q.T=cl q.T 1 64∧q.D=cl q.D 2 256)
theorem eqs4' (q:Pm) (a b c d:Int):PF.av (.eqs true [.int .i64,.int .i64,.int .i64,.int .i64]) [.agg (aPl q),.agg [.v (.int .i64 a),.v (.int .i64 b),.v (.int .i64 c),.v (.int .i64 d)]]=some (.v (.bool (!decide (q.W=a∧q.F=b∧q.T=c∧q.D=d)))):=by
 show ((PF.val (.eqs true [.int .i64,.int .i64,.int .i64,.int .i64]) [.agg [.int .i64 q.W,.int .i64 q.F,.int .i64 q.T,.int .i64 q.D].toArray,.agg [.int .i64 a,.int .i64 b,.int .i64 c,.int .i64 d].toArray]).map AV.v)=_
 have key:∀x y:Int,(x=y∧(x==y)=true)∨(x≠y∧(x==y)=false):=by intro x y;by_cases h:x=y<;>simp[h]
 rcases key q.W a with ⟨h1,b1⟩|⟨h1,b1⟩<;>rcases key q.F b with ⟨h2,b2⟩|⟨h2,b2⟩<;>rcases key q.T c with ⟨h3,b3⟩|⟨h3,b3⟩<;>rcases key q.D d with ⟨h4,b4⟩|⟨h4,b4⟩<;>simp[PF.val,eqCs,eqC,b1,b2,b3,b4,h1,h2,h3,h4]
theorem J30 (q:Pm):FnP Tryz.prog 132 [.agg (aPl q)] fun r=>r=aInt (if planB q then 0 else 3):=by
 refine Qg ZL mixed rfl (by simp[AV.pureL,AV.pure,J8]) ?_
 simp only[Q19]
 push_cast (maxSteps:=999999) -implicitDefEqProofs (disch:=omega)
 refine Q3 ?_
 have k:∀n a b,FnP Tryz.prog 118 [.v (.int .i64 n),.v (.int .i64 a),.v (.int .i64 b)] fun r=>r=.v (.int .i64 (cl n a b)):=Q15
 have heq:=eqs4' q
 have c4:cellsA (some 4) [AV.v (.int .i64 (cl q.W 1 64)),AV.v (.int .i64 (cl q.F 1 256)),AV.v (.int .i64 (cl q.T 1 64)),AV.v (.int .i64 (cl q.D 2 256))]=some (.agg [AV.v (.int .i64 (cl q.W 1 64)),AV.v (.int .i64 (cl q.F 1 256)),AV.v (.int .i64 (cl q.T 1 64)),AV.v (.int .i64 (cl q.D 2 256))]):=rfl
 have hs:setAtA [AV.v (.int .i64 0),AV.v (.int .i64 0),AV.v (.int .i64 0),AV.v (.int .i64 0)] 0 [AV.v (.int .i64 (cl q.W 1 64)),AV.v (.int .i64 (cl q.F 1 256)),AV.v (.int .i64 (cl q.T 1 64)),AV.v (.int .i64 (cl q.D 2 256))]=[AV.v (.int .i64 (cl q.W 1 64)),AV.v (.int .i64 (cl q.F 1 256)),AV.v (.int .i64 (cl q.T 1 64)),AV.v (.int .i64 (cl q.D 2 256))]:=rfl
 have hb:fillA [AV.v (.int .i64 0),AV.v (.int .i64 0),AV.v (.int .i64 0),AV.v (.int .i64 0)] [(0,1),(1,1),(2,1),(3,1)] [.v (.int .i64 (cl q.W 1 64)),.v (.int .i64 (cl q.F 1 256)),.v (.int .i64 (cl q.T 1 64)),.v (.int .i64 (cl q.D 2 256))]=some [AV.v (.int .i64 (cl q.W 1 64)),AV.v (.int .i64 (cl q.F 1 256)),AV.v (.int .i64 (cl q.T 1 64)),AV.v (.int .i64 (cl q.D 2 256))]:=by simp[fillA,AV.cells,Value.cells,setAtA]
 push_cast (maxSteps:=999999) -implicitDefEqProofs (disch:=omega)[Qf,pl0,pl1,pl2,pl3]
 cases hp:planB q with
 | true=>
  have hd:decide (q.W=cl q.W 1 64∧q.F=cl q.F 1 256∧q.T=cl q.T 1 64∧q.D=cl q.D 2 256)=true:=hp
  repeat' (first
   | (refine Q1 (k _ _ _) ?_;rintro a rfl;push_cast (maxSteps:=999999) -implicitDefEqProofs (disch:=omega)[Qf,pl0,pl1,pl2,pl3,hb])
   | (refine Qb ?_;push_cast (maxSteps:=999999) -implicitDefEqProofs (disch:=omega)[Qf,pl0,pl1,pl2,pl3,hb])
   | (refine Q8 (cs:=[AV.v (.int .i64 0),.v (.int .i64 0),.v (.int .i64 0),.v (.int .i64 0)]) (l:=[AV.v (.int .i64 (cl q.W 1 64)),AV.v (.int .i64 (cl q.F 1 256)),AV.v (.int .i64 (cl q.T 1 64)),AV.v (.int .i64 (cl q.D 2 256))]) rfl rfl rfl (by simp) ?_;rw[hs];push_cast (maxSteps:=999999) -implicitDefEqProofs (disch:=omega)[cells4,c4,heq,hd,Bool.not_true];exact ⟨[],rfl,rfl⟩)
   | (refine And.intro ?_ ?_))
 | false=>
  have hd:decide (q.W=cl q.W 1 64∧q.F=cl q.F 1 256∧q.T=cl q.T 1 64∧q.D=cl q.D 2 256)=false:=hp
  repeat' (first
   | (refine Q1 (k _ _ _) ?_;rintro a rfl;push_cast (maxSteps:=999999) -implicitDefEqProofs (disch:=omega)[Qf,pl0,pl1,pl2,pl3,hb])
   | (refine Qb ?_;push_cast (maxSteps:=999999) -implicitDefEqProofs (disch:=omega)[Qf,pl0,pl1,pl2,pl3,hb])
   | (refine Q8 (cs:=[AV.v (.int .i64 0),.v (.int .i64 0),.v (.int .i64 0),.v (.int .i64 0)]) (l:=[AV.v (.int .i64 (cl q.W 1 64)),AV.v (.int .i64 (cl q.F 1 256)),AV.v (.int .i64 (cl q.T 1 64)),AV.v (.int .i64 (cl q.D 2 256))]) rfl rfl rfl (by simp) ?_;rw[hs];push_cast (maxSteps:=999999) -implicitDefEqProofs (disch:=omega)[cells4,c4,heq,hd,Bool.not_false];exact ⟨[],rfl,rfl⟩)
   | (refine And.intro ?_ ?_))
theorem plan_ok {q:Pm} (h:planB q=true) (h0:0≤q.O∧q.O≤1000):q.Ok:=by
 unfold planB at h
 rw[decide_eq_true_eq] at h
 unfold cl at h
 exact ⟨by omega,by omega,by omega,by omega,h0⟩
def coreE (m:Int) (fs:List (List Ix)) (inp:List Int) (q:Pm):Int:=
 if prgE m fs≠0 then prgE m fs else if planB q=false∨q.O < 0∨1000 < q.O then 3 else if m < inp.length then 9 else 0
theorem Y76 (m:Int) (fs:List (List Ix)) (hf:okF fs) (inp:List Int) (q:Pm):FnP Tryz.prog 78 [.agg (Go.Proofs.YtelibaobkcokdaaGreat.aPr m fs),aInts inp,.agg (aPr q)] fun a=>a=aInt (coreE m fs inp q):=by
 refine Qg K_core_Check mixed rfl (by simp[AV.pureL,AV.pure,Go.Proofs.YtelibaobkcokdaaGreat.Zz,J03,ZG]) ?_
 simp only[Y68]
 have hac:(AV.agg (Go.Proofs.YtelibaobkcokdaaGreat.aPr m fs)).cells=Go.Proofs.YtelibaobkcokdaaGreat.aPr m fs:=rfl
 have c2:cellsA (some 2) (Go.Proofs.YtelibaobkcokdaaGreat.aPr m fs)=some (.agg (Go.Proofs.YtelibaobkcokdaaGreat.aPr m fs)):=rfl
 have p0:(Go.Proofs.YtelibaobkcokdaaGreat.aPr m fs)[0]?=some (.v (.int .i64 m)):=rfl
 have hI:aInts inp=.sl inp.length (inp.map aInt) .none:=rfl
 rw[hI]
 push_cast (maxSteps:=999999) -implicitDefEqProofs (disch:=omega)
 refine Q3 ?_
 push_cast (maxSteps:=999999) -implicitDefEqProofs (disch:=omega)
 refine Q3 ?_
 push_cast (maxSteps:=999999) -implicitDefEqProofs (disch:=omega)[hac,c2]
 refine Q1 (prog_Check_a m fs hf) ?_
 rintro a rfl
 by_cases c:prgE m fs≠0
 ·have e:coreE m fs inp q=prgE m fs:=if_pos c
  rw[e]
  push_cast (maxSteps:=999999) -implicitDefEqProofs (disch:=omega)[aInt,c]
  first|exact ⟨[],rfl,rfl⟩|exact ⟨[],rfl⟩
 have c':prgE m fs=0:=Classical.not_not.mp c
 rw[c']
 push_cast (maxSteps:=999999) -implicitDefEqProofs (disch:=omega)[aInt,Q31,prc7]
 refine Q1 (Z97 q) ?_
 rintro a rfl
 push_cast (maxSteps:=999999) -implicitDefEqProofs (disch:=omega)
 refine Q1 (J30 q) ?_
 rintro a rfl
 by_cases hp:planB q=true
 ·rw[if_pos hp]
  by_cases c3:q.O < 0
  ·have e:coreE m fs inp q=3:=by unfold coreE;rw[if_neg c,if_pos (.inr (.inl c3))]
   rw[e]
   push_cast (maxSteps:=999999) -implicitDefEqProofs (disch:=omega)[aInt,Q31,pr4,c3]
   first|exact ⟨[],rfl,rfl⟩|exact ⟨[],rfl⟩
  by_cases c4:1000 < q.O
  ·have e:coreE m fs inp q=3:=by unfold coreE;rw[if_neg c,if_pos (.inr (.inr c4))]
   rw[e]
   push_cast (maxSteps:=999999) -implicitDefEqProofs (disch:=omega)[aInt,Q31,pr4,c3,c4]
   first|exact ⟨[],rfl,rfl⟩|exact ⟨[],rfl⟩
  have cn:¬(planB q=false∨q.O < 0∨1000 < q.O):=fun h=>h.elim (fun h=>by rw[hp] at h;cases h) (fun h=>h.elim c3 c4)
  by_cases c5:m < inp.length
  ·have e:coreE m fs inp q=9:=by unfold coreE;rw[if_neg c,if_neg cn,if_pos c5]
   rw[e]
   push_cast (maxSteps:=999999) -implicitDefEqProofs (disch:=omega)[aInt,Q31,pr4,c3,c4,hac,p0,c5]
   first|exact ⟨[],rfl,rfl⟩|exact ⟨[],rfl⟩
  ·have e:coreE m fs inp q=0:=by unfold coreE;rw[if_neg c,if_neg cn,if_neg c5]
   rw[e]
   push_cast (maxSteps:=999999) -implicitDefEqProofs (disch:=omega)[aInt,Q31,pr4,c3,c4,hac,p0,c5]
   first|exact ⟨[],rfl,rfl⟩|exact ⟨[],rfl⟩
 ·have e:coreE m fs inp q=3:=by unfold coreE;rw[if_neg c,if_pos (.inl (by simpa using hp))]
  rw[e,if_neg hp]
  push_cast (maxSteps:=999999) -implicitDefEqProofs (disch:=omega)[aInt]
  first|exact ⟨[],rfl,rfl⟩|exact ⟨[],rfl⟩
end Go.Proofs.YtelibaobkcokdaaGreat.Mx
