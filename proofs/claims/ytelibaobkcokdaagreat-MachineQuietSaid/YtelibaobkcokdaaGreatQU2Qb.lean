/- MachineQuiet: the walk. -/
import Derived.Test.YtelibaobkcokdaaGreatQU2Qa
namespace Go.Proofs.YtelibaobkcokdaaGreat.Mx
set_option linter.unusedVariables false
set_option linter.unusedSimpArgs false
open Go Go.Kx Go.Proofs Go.Proofs.YtelibaobkcokdaaGreat
set_option maxRecDepth 8000
set_option maxHeartbeats 16000000 in
theorem J36 (x:Int×List (List Ix)) (inp:List Int) (y:Pm) (sc mo:List (Int×Int)) (hx:x.2.length≤9223372036854775807) (hmo:mo.length≤9223372036854775807):FnP Tryz.prog 6 [.agg (Go.Proofs.YtelibaobkcokdaaGreat.aPr x.1 x.2),aInts inp,.agg (aPr y),aPxs sc,aPxs mo] fun a=>a=aBool true:=by
 obtain ⟨m0,fs⟩:=x
 simp only at hx ⊢
 obtain ⟨q,hqf,hqy⟩:∃q:Pm,q.fs=fs∧aPr y=aPr q:=⟨{ y with fs:=fs },rfl,rfl⟩
 subst hqf
 rw[hqy]
 refine ⟨by simp[AV.pureL,AV.pure,Go.Proofs.YtelibaobkcokdaaGreat.Zz,J03,ZG,aPxs_pure],FnG.fz ?_⟩
 refine J81 ZF mixed rfl ?_
 simp only[Q00]
 have hac:(AV.agg (Go.Proofs.YtelibaobkcokdaaGreat.aPr m0 q.fs)).cells=Go.Proofs.YtelibaobkcokdaaGreat.aPr m0 q.fs:=rfl
 have haq:(AV.agg (aPr q)).cells=aPr q:=rfl
 have c2:cellsA (some 2) (Go.Proofs.YtelibaobkcokdaaGreat.aPr m0 q.fs)=some (.agg (Go.Proofs.YtelibaobkcokdaaGreat.aPr m0 q.fs)):=rfl
 have c7:cellsA (some 7) (aPr q)=some (.agg (aPr q)):=rfl
 have x7:(AV.agg (aPr q)).exact=true:=rfl
 have hII:aInts inp=.sl inp.length (inp.map aInt) .none:=rfl
 refine Q9 (fun ε σ=>(ε 1=aInts inp∧ε 3=aPxs sc∧ε 5=.ep (Go.Proofs.YtelibaobkcokdaaGreat.aPr m0 q.fs)∧ε 7=.ep (aPr q)∧ε 4=aPxs mo)∧σ=[]) ?_ ?_
 ·intro N X R hN
  push_cast (maxSteps:=999999) -implicitDefEqProofs (disch:=omega)
  refine Q3 ?_
  push_cast (maxSteps:=999999) -implicitDefEqProofs (disch:=omega)[hac]
  refine Q3 ?_
  push_cast (maxSteps:=999999) -implicitDefEqProofs (disch:=omega)[haq]
  exact hN _ _ ⟨by push_cast (maxSteps:=999999) -implicitDefEqProofs (disch:=omega),rfl⟩
 rintro ε σ ⟨hρ,rfl⟩
 refine Qm (fun ε σ=>(ε 1=aInts inp∧ε 3=aPxs sc∧ε 5=.ep (Go.Proofs.YtelibaobkcokdaaGreat.aPr m0 q.fs)∧ε 7=.ep (aPr q)∧ε 4=aPxs mo)∧σ=[]) ?_ ?_
 ·intro N hN
  push_cast (maxSteps:=999999) -implicitDefEqProofs (disch:=omega)[hρ]
  refine Q1 Gi ?_
  rintro a rfl
  push_cast (maxSteps:=999999) -implicitDefEqProofs (disch:=omega)[aBool]
  exact hN _ _ ⟨by push_cast (maxSteps:=999999) -implicitDefEqProofs (disch:=omega)[hρ],rfl⟩
 clear hρ ε
 rintro ε σ ⟨hρ,rfl⟩
 refine Qm (fun ε σ=>(ε 1=aInts inp∧ε 3=aPxs sc∧ε 5=.ep (Go.Proofs.YtelibaobkcokdaaGreat.aPr m0 q.fs)∧ε 7=.ep (aPr q)∧ε 4=aPxs mo)∧σ=[]∧okF q.fs∧inp.length≤1000∧sc.length≤20000∧mo.length≤1000) ?_ ?_
 ·intro N hN
  push_cast (maxSteps:=999999) -implicitDefEqProofs (disch:=omega)[hρ,c2,c7]
  refine Q1 (Gp m0 q.fs hx inp q sc) ?_
  rintro a ⟨b,rfl,hb⟩
  cases b with
  | true=>
   push_cast (maxSteps:=999999) -implicitDefEqProofs (disch:=omega)[aBool]
   first|exact ⟨[],rfl,rfl⟩|exact ⟨[],rfl⟩
  | false=>
   obtain ⟨hf,h1,h2⟩:=hb rfl
   by_cases cl:1000 < mo.length
   ·push_cast (maxSteps:=999999) -implicitDefEqProofs (disch:=omega)[aBool,hρ,show aPxs mo=.sl mo.length (mo.flatMap aPx) .none from rfl,cl]
    first|exact ⟨[],rfl,rfl⟩|exact ⟨[],rfl⟩
   ·push_cast (maxSteps:=999999) -implicitDefEqProofs (disch:=omega)[aBool,hρ,show aPxs mo=.sl mo.length (mo.flatMap aPx) .none from rfl,cl]
    exact hN _ _ ⟨by push_cast (maxSteps:=999999) -implicitDefEqProofs (disch:=omega)[hρ],rfl,hf,h1,h2,by omega⟩
 clear hρ ε hx
 rintro ε σ ⟨hρ,rfl,hf,hi,hsc,hal⟩
 have hsrc:∀σ:Kx.St,srcA σ 1 (aInts inp)=some (inp.length,inp.map aInt):=fun _=>rfl
 have h1:(inp.map aInt).all AV.one=true:=by rw[List.all_map];exact List.all_eq_true.2 fun x _=>rfl
 have hOwn:=J16 m0 q.fs hf
 by_cases he:coreE m0 q.fs inp q=0
 rotate_left
 ·refine Q9 (fun ε σ'=>(ε 12=.v (.int .i64 (coreE m0 q.fs inp q))∧ε 3=aPxs sc∧ε 4=aPxs mo∧ε 1=aInts inp∧ε 5=.ep (Go.Proofs.YtelibaobkcokdaaGreat.aPr m0 q.fs)∧ε 7=.ep (aPr q))∧σ'=[]) ?_ ?_
  ·intro N X R hN
   push_cast (maxSteps:=999999) -implicitDefEqProofs (disch:=omega)[hρ,c2,c7,x7]
   refine both2 ?_ ?_
   ·refine Q1 hOwn ?_
    rintro a rfl
    push_cast (maxSteps:=999999) -implicitDefEqProofs (disch:=omega)[hρ,c2,c7,x7]
    refine Qt (sz:=1) (by simp) (by simp) ?_
    push_cast (maxSteps:=999999) -implicitDefEqProofs (disch:=omega)[hρ,c2,c7,x7]
    refine Qp (n:=0) (cs:=[]) (m:=inp.length) rfl (hsrc _) (by simp) h1 rfl (by omega) (by omega) ?_
    push_cast (maxSteps:=999999) -implicitDefEqProofs (disch:=omega)[hρ,c2,c7,x7]
    refine Q0 (ZE m0 q hf inp he _) ?_
    rintro a σ' ⟨rfl,hs⟩
    rw[hs];clear hs σ'
    push_cast (maxSteps:=999999) -implicitDefEqProofs (disch:=omega)[hρ,aInt]
    exact hN _ _ ⟨by push_cast (maxSteps:=999999) -implicitDefEqProofs (disch:=omega)[hρ],rfl⟩
   ·refine Qt (sz:=1) (by simp) (by simp) ?_
    push_cast (maxSteps:=999999) -implicitDefEqProofs (disch:=omega)[hρ,c2,c7,x7]
    refine Q1 hOwn ?_
    rintro a rfl
    push_cast (maxSteps:=999999) -implicitDefEqProofs (disch:=omega)[hρ,c2,c7,x7]
    refine Qp (n:=0) (cs:=[]) (m:=inp.length) rfl (hsrc _) (by simp) h1 rfl (by omega) (by omega) ?_
    push_cast (maxSteps:=999999) -implicitDefEqProofs (disch:=omega)[hρ,c2,c7,x7]
    refine Q0 (ZE m0 q hf inp he _) ?_
    rintro a σ' ⟨rfl,hs⟩
    rw[hs];clear hs σ'
    push_cast (maxSteps:=999999) -implicitDefEqProofs (disch:=omega)[hρ,aInt]
    exact hN _ _ ⟨by push_cast (maxSteps:=999999) -implicitDefEqProofs (disch:=omega)[hρ],rfl⟩
  clear hρ ε
  rintro ε σ' ⟨hρ,e⟩
  rw[e];clear e σ'
  refine Q9 (fun ε σ'=>(ε 12=.v (.int .i64 (coreE m0 q.fs inp q))∧ε 14=.v (.int .i64 (coreE m0 q.fs inp q)))∧σ'=[]) ?_ ?_
  ·intro N X R hN
   push_cast (maxSteps:=999999) -implicitDefEqProofs (disch:=omega)[hρ,c2,c7,x7]
   refine both2 ?_ ?_
   ·refine Q1 hOwn ?_
    rintro a rfl
    push_cast (maxSteps:=999999) -implicitDefEqProofs (disch:=omega)[hρ,c2,c7,x7]
    refine Qt (sz:=1) (by simp) (by simp) ?_
    push_cast (maxSteps:=999999) -implicitDefEqProofs (disch:=omega)[hρ,c2,c7,x7]
    refine Qp (n:=0) (cs:=[]) (m:=inp.length) rfl (hsrc _) (by simp) h1 rfl (by omega) (by omega) ?_
    push_cast (maxSteps:=999999) -implicitDefEqProofs (disch:=omega)[hρ,c2,c7,x7]
    refine Q0 (ZE m0 q hf inp he _) ?_
    rintro a σ' ⟨rfl,hs⟩
    rw[hs];clear hs σ'
    push_cast (maxSteps:=999999) -implicitDefEqProofs (disch:=omega)[hρ,aInt]
    exact hN _ _ ⟨by push_cast (maxSteps:=999999) -implicitDefEqProofs (disch:=omega)[hρ],rfl⟩
   ·refine Qt (sz:=1) (by simp) (by simp) ?_
    push_cast (maxSteps:=999999) -implicitDefEqProofs (disch:=omega)[hρ,c2,c7,x7]
    refine Q1 hOwn ?_
    rintro a rfl
    push_cast (maxSteps:=999999) -implicitDefEqProofs (disch:=omega)[hρ,c2,c7,x7]
    refine Qp (n:=0) (cs:=[]) (m:=inp.length) rfl (hsrc _) (by simp) h1 rfl (by omega) (by omega) ?_
    push_cast (maxSteps:=999999) -implicitDefEqProofs (disch:=omega)[hρ,c2,c7,x7]
    refine Q0 (ZE m0 q hf inp he _) ?_
    rintro a σ' ⟨rfl,hs⟩
    rw[hs];clear hs σ'
    push_cast (maxSteps:=999999) -implicitDefEqProofs (disch:=omega)[hρ,aInt]
    exact hN _ _ ⟨by push_cast (maxSteps:=999999) -implicitDefEqProofs (disch:=omega)[hρ],rfl⟩
  clear hρ ε
  rintro ε σ' ⟨hρ,e⟩
  rw[e];clear e σ'
  push_cast (maxSteps:=999999) -implicitDefEqProofs (disch:=omega)[hρ,he]
  first|exact ⟨[],rfl,rfl⟩|exact ⟨[],rfl⟩
 obtain ⟨M,rfl⟩:∃M:Nat,m0=M:=⟨m0.toNat,by have:=coreE_m he;omega⟩
 refine Q9 (fun ε σ'=>∃jm,(ε 11=.ref jm 0 0∧ε 12=.v (.int .i64 0)∧ε 3=aPxs sc∧ε 4=aPxs mo∧ε 1=aInts inp∧ε 5=.ep (Go.Proofs.YtelibaobkcokdaaGreat.aPr M q.fs)∧ε 7=.ep (aPr q))∧∃pl,MaR [] jm q pl σ' (mkM q M inp) 0) ?_ ?_
 ·intro N X R hN
  push_cast (maxSteps:=999999) -implicitDefEqProofs (disch:=omega)[hρ,c2,c7,x7]
  refine both2 ?_ ?_
  ·refine Q1 hOwn ?_
   rintro a rfl
   push_cast (maxSteps:=999999) -implicitDefEqProofs (disch:=omega)[hρ,c2,c7,x7]
   refine Qt (sz:=1) (by simp) (by simp) ?_
   push_cast (maxSteps:=999999) -implicitDefEqProofs (disch:=omega)[hρ,c2,c7,x7]
   refine Qp (n:=0) (cs:=[]) (m:=inp.length) rfl (hsrc _) (by simp) h1 rfl (by omega) (by omega) ?_
   push_cast (maxSteps:=999999) -implicitDefEqProofs (disch:=omega)[hρ,c2,c7,x7]
   refine Q0 (Q38 M q hf inp he []) ?_
   rintro a σ' ⟨jm,rfl,pl,h⟩
   push_cast (maxSteps:=999999) -implicitDefEqProofs (disch:=omega)[hρ,aInt]
   exact hN _ _ ⟨jm,by push_cast (maxSteps:=999999) -implicitDefEqProofs (disch:=omega)[hρ],pl,h⟩
  ·refine Qt (sz:=1) (by simp) (by simp) ?_
   push_cast (maxSteps:=999999) -implicitDefEqProofs (disch:=omega)[hρ,c2,c7,x7]
   refine Q1 hOwn ?_
   rintro a rfl
   push_cast (maxSteps:=999999) -implicitDefEqProofs (disch:=omega)[hρ,c2,c7,x7]
   refine Qp (n:=0) (cs:=[]) (m:=inp.length) rfl (hsrc _) (by simp) h1 rfl (by omega) (by omega) ?_
   push_cast (maxSteps:=999999) -implicitDefEqProofs (disch:=omega)[hρ,c2,c7,x7]
   refine Q0 (Q38 M q hf inp he []) ?_
   rintro a σ' ⟨jm,rfl,pl,h⟩
   push_cast (maxSteps:=999999) -implicitDefEqProofs (disch:=omega)[hρ,aInt]
   exact hN _ _ ⟨jm,by push_cast (maxSteps:=999999) -implicitDefEqProofs (disch:=omega)[hρ],pl,h⟩
 clear hρ ε
 rintro ε σ ⟨jm,hρ,pl,h0⟩
 have hok:=h0.ma.mm.sd.ok
 have hmk:=h0.ok
 refine Q9 (fun ε σ'=>∃jx,(ε 11=.ref jm 0 0∧ε 12=.v (.int .i64 0)∧ε 13=.ref jx 0 0∧ε 14=.v (.int .i64 0)∧ε 3=aPxs sc∧ε 4=aPxs mo∧ε 1=aInts inp∧ε 5=.ep (Go.Proofs.YtelibaobkcokdaaGreat.aPr M q.fs)∧ε 7=.ep (aPr q))∧∃px,Two jm jx q pl px σ' (mkM q M inp)) ?_ ?_
 ·intro N X R hN
  push_cast (maxSteps:=999999) -implicitDefEqProofs (disch:=omega)[hρ,c2,c7,x7]
  refine both2 ?_ ?_
  ·refine Q1 hOwn ?_
   rintro a rfl
   push_cast (maxSteps:=999999) -implicitDefEqProofs (disch:=omega)[hρ,c2,c7,x7]
   refine Qt (sz:=1) (by simp) (by simp) ?_
   push_cast (maxSteps:=999999) -implicitDefEqProofs (disch:=omega)[hρ,c2,c7,x7]
   refine Qp (n:=0) (cs:=[]) (m:=inp.length) rfl (hsrc _) (by simp) h1 rfl (by omega) (by omega) ?_
   push_cast (maxSteps:=999999) -implicitDefEqProofs (disch:=omega)[hρ,c2,c7,x7]
   refine Q0 (Q38 M q hf inp he σ) ?_
   rintro a σ' ⟨jx,rfl,px,h⟩
   push_cast (maxSteps:=999999) -implicitDefEqProofs (disch:=omega)[hρ,aInt]
   exact hN _ _ ⟨jx,by push_cast (maxSteps:=999999) -implicitDefEqProofs (disch:=omega)[hρ],px,two_new h0.ma h⟩
  ·refine Qt (sz:=1) (by simp) (by simp) ?_
   push_cast (maxSteps:=999999) -implicitDefEqProofs (disch:=omega)[hρ,c2,c7,x7]
   refine Q1 hOwn ?_
   rintro a rfl
   push_cast (maxSteps:=999999) -implicitDefEqProofs (disch:=omega)[hρ,c2,c7,x7]
   refine Qp (n:=0) (cs:=[]) (m:=inp.length) rfl (hsrc _) (by simp) h1 rfl (by omega) (by omega) ?_
   push_cast (maxSteps:=999999) -implicitDefEqProofs (disch:=omega)[hρ,c2,c7,x7]
   refine Q0 (Q38 M q hf inp he σ) ?_
   rintro a σ' ⟨jx,rfl,px,h⟩
   push_cast (maxSteps:=999999) -implicitDefEqProofs (disch:=omega)[hρ,aInt]
   exact hN _ _ ⟨jx,by push_cast (maxSteps:=999999) -implicitDefEqProofs (disch:=omega)[hρ],px,two_new h0.ma h⟩
 clear hρ ε h0 σ
 rintro ε σ ⟨jx,hρ,px,h⟩
 refine Qm (fun ε σ'=>(ε 11=.ref jm 0 0∧ε 13=.ref jx 0 0∧ε 3=aPxs sc∧ε 4=aPxs mo∧ε 7=.ep (aPr q))∧σ'=σ) ?_ ?_
 ·intro N hN
  push_cast (maxSteps:=999999) -implicitDefEqProofs (disch:=omega)[hρ]
  exact hN _ _ ⟨by push_cast (maxSteps:=999999) -implicitDefEqProofs (disch:=omega)[hρ],rfl⟩
 clear hρ ε
 rintro ε σ' ⟨hρ,e⟩
 rw[e];clear e σ'
 have hPP:aPxs sc=.sl sc.length (sc.flatMap aPx) .none:=rfl
 have hPM:aPxs mo=.sl mo.length (mo.flatMap aPx) .none:=rfl
 have hW:=hok.1
 have r0:(aPr q)[0]?=some (.v (.int .i64 q.W)):=rfl
 refine Q9 (fun ε σ=>∃pl px m,∃n:Nat,(ε 11=.ref jm 0 0∧ε 13=.ref jx 0 0∧ε 4=aPxs mo)∧Two jm jx q pl px σ m∧McOk m n∧n≤20000) ?_ ?_
 ·intro N X R hN
  push_cast (maxSteps:=999999) -implicitDefEqProofs (disch:=omega)[hρ]
  refine Jq (α:=Nat) (I:=fun k ε σ=>∃pl px m,(ε 11=.ref jm 0 0∧ε 13=.ref jx 0 0∧ε 3=aPxs sc∧ε 4=aPxs mo∧ε 7=.ep (aPr q)∧ε 15=.v (.int .i64 k))∧k≤sc.length∧Two jm jx q pl px σ m∧McOk m k)
   (μ:=fun k=>sc.length - k) (Q:=fun ε σ=>∃pl px m,∃n:Nat,(ε 11=.ref jm 0 0∧ε 13=.ref jx 0 0∧ε 4=aPxs mo)∧Two jm jx q pl px σ m∧McOk m n∧n≤20000) (x:=0) ?_ ?_ hN
  ·exact ⟨pl,px,mkM q M inp,by push_cast (maxSteps:=999999) -implicitDefEqProofs (disch:=omega)[hρ],by omega,h,hmk⟩
  ·clear hN N X R hρ ε h pl px σ hmk
   rintro k ε σ N E X R ⟨pl,px,m,hρ,hk,h,hm⟩ hN hE
   simp only[QN]
   by_cases hlt:k < sc.length
   ·obtain ⟨o,ho⟩:=Q09 hlt
    obtain ⟨o1,o2⟩:=o
    have hd:=QH aPx_len ho
    have hcl:(AV.agg (aPx (o1,o2))).cells=aPx (o1,o2):=rfl
    have hset:setAtA [AV.v (.int .i64 0),AV.v (.int .i64 0)] 0 (aPx (o1,o2))=aPx (o1,o2):=rfl
    have c20:∀p:Int×Int,cellsA (some 2) (aPx p)=some (.agg (aPx p)):=fun _=>rfl
    have la:=h.a.mm.lt
    have lb:=h.b.mm.lt
    have ja:=h.a.jlt
    have jb:=h.b.jlt
    refine Qm (fun ε' σ'=>(ε' 11=.ref jm 0 0∧ε' 13=.ref jx 0 0∧ε' 3=aPxs sc∧ε' 4=aPxs mo∧ε' 7=.ep (aPr q)∧ε' 15=.v (.int .i64 k))∧σ'=σ) ?_ ?_
    ·intro N' hN'
     push_cast (maxSteps:=999999) -implicitDefEqProofs (disch:=omega)[hρ,hPP]
     exact hN' _ _ ⟨by push_cast (maxSteps:=999999) -implicitDefEqProofs (disch:=omega)[hρ,hPP],rfl⟩
    clear hρ ε
    rintro ε σ' ⟨hρ,e⟩
    rw[e];clear e σ'
    refine Q9 (fun ε' σ'=>(ε' 11=.ref jm 0 0∧ε' 13=.ref jx 0 0∧ε' 3=aPxs sc∧ε' 4=aPxs mo∧ε' 7=.ep (aPr q)∧ε' 15=.v (.int .i64 k))∧∃pl' px',Two jm jx q pl' px' σ' (m.step q o1 o2)) ?_ ?_
    ·intro N' X' R' hN'
     refine Q89 fun X1 _=>?_
     refine Q9 (fun ε' σ'=>(ε' 16=.ref σ.length 0 0∧ε' 11=.ref jm 0 0∧ε' 13=.ref jx 0 0∧ε' 3=aPxs sc∧ε' 4=aPxs mo∧ε' 7=.ep (aPr q)∧ε' 15=.v (.int .i64 k))∧σ'=σ++[.obj 0 (aPx (o1,o2))]) ?_ ?_
     ·intro N2 X2 R2 hN2
      push_cast (maxSteps:=999999) -implicitDefEqProofs (disch:=omega)[hρ,hPP,hd,c2k]
      refine Qb ?_
      push_cast (maxSteps:=999999) -implicitDefEqProofs (disch:=omega)[hcl]
      refine Q8 (cs:=[AV.v (.int .i64 0),AV.v (.int .i64 0)]) rfl rfl (Qc _ _) (Nat.le_refl 2) ?_
      rw[hset,Qq]
      push_cast (maxSteps:=999999) -implicitDefEqProofs (disch:=omega)[hρ]
      exact hN2 _ _ ⟨by push_cast (maxSteps:=999999) -implicitDefEqProofs (disch:=omega)[hρ,hPP],rfl⟩
     clear hρ ε
     rintro ε σ' ⟨hρ,e⟩
     rw[e];clear e σ'
     have h1:=h.app [.obj 0 (aPx (o1,o2))]
     have hb:(σ++[Res.obj 0 (aPx (o1,o2))])[σ.length]?=some (.obj 0 (aPx (o1,o2))):=Qc _ _
     have hbl:=Qe hb
     refine Q9 (fun ε' σ'=>(ε' 16=.ref σ.length 0 0∧ε' 11=.ref jm 0 0∧ε' 13=.ref jx 0 0∧ε' 3=aPxs sc∧ε' 4=aPxs mo∧ε' 7=.ep (aPr q)∧ε' 15=.v (.int .i64 k))∧∃pl',Half jm jx q pl' px σ' m (m.step q o1 o2)∧σ'[σ.length]?=some (.obj 0 (aPx (o1,o2)))∧(∀ro,pl'.p ro≠σ.length)) ?_ ?_
     ·intro N2 X2 R2 hN2
      push_cast (maxSteps:=999999) -implicitDefEqProofs (disch:=omega)[hρ,hb,c20]
      refine Q0 (Q67 h1.a hm (by omega) o1 o2) ?_
      rintro a σ' ⟨pl',rfl,hA,X⟩
      push_cast (maxSteps:=999999) -implicitDefEqProofs (disch:=omega)[hρ]
      refine hN2 _ _ ⟨by push_cast (maxSteps:=999999) -implicitDefEqProofs (disch:=omega)[hρ],pl',h1.half hA X,(X.keep _ hbl fun ro e=>by have:=la ro;omega).trans hb,fun ro e=>?_⟩
      rcases X.new ro with e'|e'
      ·have:=la ro;omega
      ·omega
     clear hρ ε
     rintro ε S ⟨hρ,pl',hH,hb',hpl⟩
     refine Q9 (fun ε' σ'=>(ε' 16=.ref σ.length 0 0∧ε' 11=.ref jm 0 0∧ε' 13=.ref jx 0 0∧ε' 3=aPxs sc∧ε' 4=aPxs mo∧ε' 7=.ep (aPr q)∧ε' 15=.v (.int .i64 k))∧∃a b,Half jm jx q pl' px σ' m (m.step q o1 o2)∧σ'[σ.length]?=some (.obj 0 (aPx (a,b)))∧m.step q a b=m.step q o1 o2) ?_ ?_
     ·intro N2 X2 R2 hN2
      have g0:(aPx (o1,o2))[0]?=some (.v (.int .i64 o1)):=rfl
      have g1:(aPx (o1,o2))[1]?=some (.v (.int .i64 o2)):=rfl
      by_cases c1:0≤o1
      ·by_cases c2:o1 < 1099511627776
       ·by_cases c3:0≤o2
        ·by_cases c4:o2 < 1099511627776
         ·push_cast (maxSteps:=999999) -implicitDefEqProofs (disch:=omega)[hρ,hb',g0,g1,c1,c2,c3,c4,r0]
          refine Q6 rfl rfl hb' (show 0 < 2 from by omega) ?_
          have hb2:=Qa (o:=Res.obj 0 (aPx (o1+3 * q.W,o2))) hb'
          have e1:(aPx (o1,o2)).set 0 (.v (.int .i64 (o1+3 * q.W)))=aPx (o1+3 * q.W,o2):=rfl
          have e2:(aPx (o1+3 * q.W,o2)).set 1 (.v (.int .i64 (o2+2 * q.W)))=aPx (o1+3 * q.W,o2+2 * q.W):=rfl
          have g2:(aPx (o1+3 * q.W,o2))[1]?=some (.v (.int .i64 o2)):=rfl
          have hH2:=hH.set hpl (fun ro e=>by have:=lb ro;omega) (by omega) (by omega) (.obj 0 (aPx (o1+3 * q.W,o2)))
          rw[e1]
          generalize S.set σ.length (.obj 0 (aPx (o1+3 * q.W,o2)))=S2 at hb2 hH2
          push_cast (maxSteps:=999999) -implicitDefEqProofs (disch:=omega)[hρ,hb2,g2,r0]
          refine Q6 rfl rfl hb2 (show 1 < 2 from by omega) ?_
          rw[e2]
          have hb3:=Qa (o:=Res.obj 0 (aPx (o1+3 * q.W,o2+2 * q.W))) hb2
          have hH3:=hH2.set hpl (fun ro e=>by have:=lb ro;omega) (by omega) (by omega) (.obj 0 (aPx (o1+3 * q.W,o2+2 * q.W)))
          push_cast (maxSteps:=999999) -implicitDefEqProofs (disch:=omega)[hρ]
          exact hN2 _ _ ⟨by push_cast (maxSteps:=999999) -implicitDefEqProofs (disch:=omega)[hρ],_,_,hH3,hb3,step_more (by omega) m c1 c3⟩
         ·push_cast (maxSteps:=999999) -implicitDefEqProofs (disch:=omega)[hρ,hb',g0,g1,c1,c2,c3,c4]
          exact hN2 _ _ ⟨by push_cast (maxSteps:=999999) -implicitDefEqProofs (disch:=omega)[hρ],_,_,hH,hb',rfl⟩
        ·push_cast (maxSteps:=999999) -implicitDefEqProofs (disch:=omega)[hρ,hb',g0,g1,c1,c2,c3]
         exact hN2 _ _ ⟨by push_cast (maxSteps:=999999) -implicitDefEqProofs (disch:=omega)[hρ],_,_,hH,hb',rfl⟩
       ·push_cast (maxSteps:=999999) -implicitDefEqProofs (disch:=omega)[hρ,hb',g0,g1,c1,c2]
        exact hN2 _ _ ⟨by push_cast (maxSteps:=999999) -implicitDefEqProofs (disch:=omega)[hρ],_,_,hH,hb',rfl⟩
      ·push_cast (maxSteps:=999999) -implicitDefEqProofs (disch:=omega)[hρ,hb',g0,g1,c1]
       exact hN2 _ _ ⟨by push_cast (maxSteps:=999999) -implicitDefEqProofs (disch:=omega)[hρ],_,_,hH,hb',rfl⟩
     clear hρ hH hb' ε S
     rintro ε S ⟨hρ,a,b,hH,hb',hab⟩
     push_cast (maxSteps:=999999) -implicitDefEqProofs (disch:=omega)[hρ,hb',c20]
     refine Q0 (Q67 hH.b hm (by omega) a b) ?_
     rintro v σ' ⟨px',rfl,hB,X⟩
     rw[hab] at hB
     push_cast (maxSteps:=999999) -implicitDefEqProofs (disch:=omega)[hρ]
     exact hN' _ _ ⟨by push_cast (maxSteps:=999999) -implicitDefEqProofs (disch:=omega)[hρ],pl',px',hH.two hB X⟩
    clear hρ ε
    rintro ε σ' ⟨hρ,pl',px',h'⟩
    push_cast (maxSteps:=999999) -implicitDefEqProofs (disch:=omega)[hρ]
    exact hN (k+1) _ _ ⟨pl',px',_,by push_cast (maxSteps:=999999) -implicitDefEqProofs (disch:=omega)[hρ],by omega,h',hm.step q o1 o2⟩ (by omega)
   ·push_cast (maxSteps:=999999) -implicitDefEqProofs (disch:=omega)[hρ,hPP]
    exact hE _ _ ⟨pl,px,m,k,by push_cast (maxSteps:=999999) -implicitDefEqProofs (disch:=omega)[hρ],h,hm,by omega⟩
 clear hρ ε h pl px σ hmk
 rintro ε σ ⟨pl,px,m,n,hρ,h,hm,hn⟩
 have ho:=h.a.mm.sd.ol
 have hdt:=h.a.mm.sd.dt
 have hlg:=hm.lg
 have hac:∀o d,(AV.agg (aRg m.state m.c m.c.peak o d)).cells=aRg m.state m.c m.c.peak o d:=fun _ _=>rfl
 have hz:∀l:List AV,l.length=11→setAtA zR 0 l=l:=fun l hl=>Q07 (by rw[hl];rfl)
 have c11:∀o d,cellsA (some 11) (aRg m.state m.c m.c.peak o d)=some (.agg (aRg m.state m.c m.c.peak o d)):=fun _ _=>rfl
 have hlen:PF.av (.len false) [aVtsN m.c.log]=some (.v (.int .i64 m.c.log.length)):=by
  unfold aVtsN
  split
  ·rename_i e;rw[e];rfl
  ·rfl
 have hjlt:∀(S:Kx.St),σ.length≤S.length→(∀ro,pl.p ro≠S.length)∧(∀ro,px.p ro≠S.length):=fun S hS=>⟨fun ro e=>by have:=h.a.mm.lt ro;omega,fun ro e=>by have:=h.b.mm.lt ro;omega⟩
 refine Q9 (fun ε σ'=>∃t1 t2 j,(ε 11=.ref jm 0 0∧ε 13=.ref jx 0 0∧ε 4=aPxs mo∧ε 17=.ref j 0 0∧ε 18=.v (.int .i64 m.c.log.length))∧Two jm jx q pl px σ' m∧σ'[j]?=some (.obj 0 (aRg m.state m.c m.c.peak (.sl m.c.out.length (m.c.out.map aInt) t1) (.sl m.c.data.length (m.c.data.map aInt) t2)))∧(TkOk m.c.out t1∧TkOk m.c.data t2)∧∀ro,pl.p ro≠j) ?_ ?_
 ·intro N X R hN
  push_cast (maxSteps:=999999) -implicitDefEqProofs (disch:=omega)[hρ]
  refine Q0 (Xx h.a) ?_
  rintro a σ' ⟨⟨t1,t2,rfl,k1,k2⟩,τ,hs⟩
  rw[hs];clear hs σ'
  push_cast (maxSteps:=999999) -implicitDefEqProofs (disch:=omega)[hρ]
  refine Qk (Q92 (h.app τ).a (by omega)) ?_
  push_cast (maxSteps:=999999) -implicitDefEqProofs (disch:=omega)[hρ,hlen]
  refine Qb ?_
  push_cast (maxSteps:=999999) -implicitDefEqProofs (disch:=omega)[hac]
  refine Q8 (cs:=zR) rfl rfl (Qc _ _) (Nat.le_refl 11) ?_
  rw[hz _ rfl,Qq]
  push_cast (maxSteps:=999999) -implicitDefEqProofs (disch:=omega)[hρ]
  exact hN _ _ ⟨t1,t2,_,by push_cast (maxSteps:=999999) -implicitDefEqProofs (disch:=omega)[hρ],(h.app τ).app _,Qc _ _,⟨k1,k2⟩,(hjlt (σ++τ) (by simp)).1⟩
 clear hρ ε hjlt
 rintro ε S ⟨t1,t2,j,hρ,h2,hj,⟨k1,k2⟩,hpj⟩
 clear h σ
 have hex:=rs_exact (st:=m.state) (c:=m.c) (pk:=m.c.peak) (n1:=m.c.out.length) (n2:=m.c.data.length) (c1:=m.c.out.map aInt) (c2:=m.c.data.map aInt) k1 k2
 have hsame:=SameResult_a m.state m.c m.c.peak (by omega) (by omega)
 refine Qm (fun ε σ'=>(ε 11=.ref jm 0 0∧ε 4=aPxs mo∧ε 17=.ref j 0 0∧ε 18=.v (.int .i64 m.c.log.length))∧σ'=S) ?_ ?_
 ·intro N hN
  push_cast (maxSteps:=999999) -implicitDefEqProofs (disch:=omega)[hρ,hj,c11]
  refine Qk (Q93 h2.b) ?_
  push_cast (maxSteps:=999999) -implicitDefEqProofs (disch:=omega)[hρ,hj,c11,hex]
  refine Jm [] [true,true] hsame (by simp only[weak,if_true];rw[rs_res,rs_res0]) ?_
  rintro a rfl
  push_cast (maxSteps:=999999) -implicitDefEqProofs (disch:=omega)[hρ,aBool]
  exact hN _ _ ⟨by push_cast (maxSteps:=999999) -implicitDefEqProofs (disch:=omega)[hρ],by rw[fzn]⟩
 clear hρ ε
 rintro ε σ' ⟨hρ,e⟩
 rw[e];clear e σ'
 cases ce:m.ended with
 | false=>
  refine Qm (fun ε σ'=>False) ?_ (fun _ _ hF=>hF.elim)
  intro N hN
  push_cast (maxSteps:=999999) -implicitDefEqProofs (disch:=omega)[hρ]
  refine Qk (QM h2.a) ?_
  rw[ce]
  push_cast (maxSteps:=999999) -implicitDefEqProofs (disch:=omega)[hρ,aBool]
  first|exact ⟨[],rfl,rfl⟩|exact ⟨[],rfl⟩
 | true=>
  refine Qm (fun ε σ'=>(ε 11=.ref jm 0 0∧ε 4=aPxs mo∧ε 17=.ref j 0 0∧ε 18=.v (.int .i64 m.c.log.length))∧σ'=S) ?_ ?_
  ·intro N hN
   push_cast (maxSteps:=999999) -implicitDefEqProofs (disch:=omega)[hρ]
   refine Qk (QM h2.a) ?_
   rw[ce]
   push_cast (maxSteps:=999999) -implicitDefEqProofs (disch:=omega)[hρ,aBool]
   exact hN _ _ ⟨by push_cast (maxSteps:=999999) -implicitDefEqProofs (disch:=omega)[hρ],rfl⟩
  clear hρ ε
  rintro ε σ' ⟨hρ,e⟩
  rw[e];clear e σ'
  refine Q9 (fun ε σ'=>(ε 11=.ref jm 0 0∧ε 4=aPxs mo∧ε 17=.ref j 0 0∧ε 18=.v (.int .i64 m.c.log.length)∧ε 19=aVws m.l)∧σ'=S) ?_ ?_
  ·intro N X R hN
   push_cast (maxSteps:=999999) -implicitDefEqProofs (disch:=omega)[hρ]
   refine Qk (Q64 h2.a) ?_
   push_cast (maxSteps:=999999) -implicitDefEqProofs (disch:=omega)[hρ]
   exact hN _ _ ⟨by push_cast (maxSteps:=999999) -implicitDefEqProofs (disch:=omega)[hρ],rfl⟩
  clear hρ ε
  rintro ε σ' ⟨hρ,e⟩
  rw[e];clear e σ'
  have hA:=h2.a
  clear h2
  refine Q9 (fun ε σ'=>(ε 11=.ref jm 0 0∧ε 17=.ref j 0 0∧ε 18=.v (.int .i64 m.c.log.length)∧ε 19=aVws m.l)∧∃pl,MaM jm q pl σ' m∧σ'[j]?=some (.obj 0 (aRg m.state m.c m.c.peak (.sl m.c.out.length (m.c.out.map aInt) t1) (.sl m.c.data.length (m.c.data.map aInt) t2)))) ?_ ?_
  ·intro N X R hN
   push_cast (maxSteps:=999999) -implicitDefEqProofs (disch:=omega)[hρ]
   refine Jq (α:=Nat) (I:=fun k ε σ'=>(ε 11=.ref jm 0 0∧ε 4=aPxs mo∧ε 17=.ref j 0 0∧ε 18=.v (.int .i64 m.c.log.length)∧ε 19=aVws m.l∧ε 20=.v (.int .i64 k))∧k≤mo.length∧∃pl,MaM jm q pl σ' m∧McOk m (n+k)∧σ'[j]?=some (.obj 0 (aRg m.state m.c m.c.peak (.sl m.c.out.length (m.c.out.map aInt) t1) (.sl m.c.data.length (m.c.data.map aInt) t2)))∧∀ro,pl.p ro≠j)
    (μ:=fun k=>mo.length - k) (Q:=fun ε σ'=>(ε 11=.ref jm 0 0∧ε 17=.ref j 0 0∧ε 18=.v (.int .i64 m.c.log.length)∧ε 19=aVws m.l)∧∃pl,MaM jm q pl σ' m∧σ'[j]?=some (.obj 0 (aRg m.state m.c m.c.peak (.sl m.c.out.length (m.c.out.map aInt) t1) (.sl m.c.data.length (m.c.data.map aInt) t2)))) (x:=0) ?_ ?_ hN
   ·exact ⟨by push_cast (maxSteps:=999999) -implicitDefEqProofs (disch:=omega)[hρ],by omega,pl,hA,hm,hj,hpj⟩
   ·clear hN N X R hρ ε hA hj hpj pl
    rintro k ε σ N E X R ⟨hρ,hk,pl,hA,hmk,hj,hpj⟩ hN hE
    simp only[QO]
    by_cases hlt:k < mo.length
    ·obtain ⟨o,ho'⟩:=Q09 hlt
     have hd:=QH aPx_len ho'
     have e:=step_end (q:=q) ce o.1 o.2
     push_cast (maxSteps:=999999) -implicitDefEqProofs (disch:=omega)[hρ,hPM,hd,c2k]
     refine Q0 (Q67 hA hmk (by omega) o.1 o.2) ?_
     rintro a σ' ⟨pl',rfl,hB,X⟩
     have hmk':=hmk.step q o.1 o.2
     rw[e] at hB hmk' ⊢
     rw[ce]
     push_cast (maxSteps:=999999) -implicitDefEqProofs (disch:=omega)[hρ,aBool]
     refine hN (k+1) _ _ ⟨by push_cast (maxSteps:=999999) -implicitDefEqProofs (disch:=omega)[hρ,hPM],by omega,pl',hB,hmk',(X.keep j (Qe hj) hpj).trans hj,fun ro e'=>?_⟩ (by omega)
     have:=Qe hj
     rcases X.new ro with e2|e2
     ·rw[e2] at e';exact hpj ro e'
     ·omega
    ·push_cast (maxSteps:=999999) -implicitDefEqProofs (disch:=omega)[hρ,hPM]
     exact hE _ _ ⟨by push_cast (maxSteps:=999999) -implicitDefEqProofs (disch:=omega)[hρ],pl,hA,hj⟩
  clear hρ ε hA hj hpj pl
  rintro ε σ ⟨hρ,pl,hA,hj⟩
  refine Q9 (fun ε σ'=>(ε 11=.ref jm 0 0∧ε 17=.ref j 0 0∧ε 18=.v (.int .i64 m.c.log.length)∧ε 19=aVws m.l∧ε 21=aVws m.l)∧σ'=σ) ?_ ?_
  ·intro N X R hN
   push_cast (maxSteps:=999999) -implicitDefEqProofs (disch:=omega)[hρ]
   refine Qk (Q64 hA) ?_
   push_cast (maxSteps:=999999) -implicitDefEqProofs (disch:=omega)[hρ]
   exact hN _ _ ⟨by push_cast (maxSteps:=999999) -implicitDefEqProofs (disch:=omega)[hρ],rfl⟩
  clear hρ ε
  rintro ε σ' ⟨hρ,e⟩
  rw[e];clear e σ'
  have hln:=hA.ln
  have hVV:aVws m.l=.sl m.l.length (m.l.flatMap aVw) .none:=rfl
  refine Q9 (fun ε σ'=>(ε 11=.ref jm 0 0∧ε 17=.ref j 0 0∧ε 18=.v (.int .i64 m.c.log.length)∧ε 19=aVws m.l∧ε 21=aVws m.l)∧σ'=σ) ?_ ?_
  ·intro N X R hN
   push_cast (maxSteps:=999999) -implicitDefEqProofs (disch:=omega)[hρ]
   refine Jq (α:=Nat) (I:=fun k ε σ'=>(ε 11=.ref jm 0 0∧ε 17=.ref j 0 0∧ε 18=.v (.int .i64 m.c.log.length)∧ε 19=aVws m.l∧ε 21=aVws m.l∧ε 22=.v (.int .i64 k))∧k≤m.l.length∧σ'=σ)
    (μ:=fun k=>m.l.length - k) (Q:=fun ε σ'=>(ε 11=.ref jm 0 0∧ε 17=.ref j 0 0∧ε 18=.v (.int .i64 m.c.log.length)∧ε 19=aVws m.l∧ε 21=aVws m.l)∧σ'=σ) (x:=0) ?_ ?_ hN
   ·exact ⟨by push_cast (maxSteps:=999999) -implicitDefEqProofs (disch:=omega)[hρ],by omega,rfl⟩
   ·clear hN N X R hρ ε
    rintro k ε σ' N E X R ⟨hρ,hk,e⟩ hN hE
    rw[e];clear e σ'
    simp only[QP]
    by_cases hlt:k < m.l.length
    ·obtain ⟨v,hv⟩:=Q09 hlt
     have hd:=QH Gf hv
     have hcl:∀l:List AV,cellsA (some 4) (aVw v++l)=some (.agg (aVw v)):=fun l=>by rw[Z86 _ _ (by simp[Gf])];rfl
     have he:PF.av (.eqs true [.int .i64,.int .i64,.int .i64,.int .i64]) [.agg (aVw v),.agg (aVw v)]=some (.v (.bool false)):=by
      show ((PF.val (.eqs true [.int .i64,.int .i64,.int .i64,.int .i64]) [.agg [.int .i64 v.state,.int .i64 v.holds,.int .i64 v.tail,.int .i64 v.probed].toArray,.agg [.int .i64 v.state,.int .i64 v.holds,.int .i64 v.tail,.int .i64 v.probed].toArray]).map AV.v)=_
      simp[PF.val,eqCs,eqC]
     push_cast (maxSteps:=999999) -implicitDefEqProofs (disch:=omega)[hρ,hVV,hd,hcl,he]
     exact hN (k+1) _ _ ⟨by push_cast (maxSteps:=999999) -implicitDefEqProofs (disch:=omega)[hρ,hVV],by omega,rfl⟩ (by omega)
    ·push_cast (maxSteps:=999999) -implicitDefEqProofs (disch:=omega)[hρ,hVV]
     exact hE _ _ ⟨by push_cast (maxSteps:=999999) -implicitDefEqProofs (disch:=omega)[hρ,hVV],rfl⟩
  clear hρ ε
  rintro ε σ' ⟨hρ,e⟩
  rw[e];clear e σ'
  push_cast (maxSteps:=999999) -implicitDefEqProofs (disch:=omega)[hρ,hj,c11]
  refine Qk (Q93 hA) ?_
  push_cast (maxSteps:=999999) -implicitDefEqProofs (disch:=omega)[hρ,hj,c11,hex]
  refine Jm [] [true,true] hsame (by simp only[weak,if_true];rw[rs_res,rs_res0]) ?_
  rintro a rfl
  rw[fzn]
  push_cast (maxSteps:=999999) -implicitDefEqProofs (disch:=omega)[hρ,aBool]
  refine Qk (Q92 hA (by omega)) ?_
  push_cast (maxSteps:=999999) -implicitDefEqProofs (disch:=omega)[hρ,hlen,hVV]
  first|exact ⟨[],rfl,rfl⟩|exact ⟨[],rfl⟩
end Go.Proofs.YtelibaobkcokdaaGreat.Mx
