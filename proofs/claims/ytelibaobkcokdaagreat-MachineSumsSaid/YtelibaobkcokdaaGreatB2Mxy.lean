/- MachineSums: the walk. -/
import Derived.Test.YtelibaobkcokdaaGreatB2Mxx
namespace Go.Proofs.YtelibaobkcokdaaGreat.Mx
set_option linter.unusedVariables false
set_option linter.unusedSimpArgs false
open Go Go.Kx Go.Proofs Go.Proofs.YtelibaobkcokdaaGreat
set_option maxRecDepth 8000
def aSt (c:Cs) (pk:Int):List AV:=[.v (.int .i64 c.steps),.v (.int .i64 c.probes),.v (.int .i64 c.steals),.v (.int .i64 c.parks),.v (.int .i64 c.naps),.v (.int .i64 c.folds),.v (.int .i64 pk)]
theorem fld_st (st:Int) (c:Cs) (pk:Int):PF.av (.fld 4 (some 7)) [.agg (aRs st c pk)]=some (.agg (aSt c pk)):=rfl
theorem sum_take (f:Wk→Int) {l:List Wk} {k:Nat} {w:Wk} (h:l[k]?=some w):((l.take (k+1)).map f).sum=((l.take k).map f).sum+f w:=by
 rw[Q04 h,List.map_append,List.sum_append];simp
theorem sum_part (f:Wk→Int) {l:List Wk} (h:∀w∈l,0≤f w) (k:Nat):0≤((l.take k).map f).sum∧((l.take k).map f).sum≤(l.map f).sum:=by
 have e:(l.map f).sum=((l.take k).map f).sum+((l.drop k).map f).sum:=by rw[←List.sum_append,←List.map_append,List.take_append_drop]
 have a:=(sum_ge f (l:=l.take k) fun w hw=>h w (List.mem_of_mem_take hw)).1
 have b:=(sum_ge f (l:=l.drop k) fun w hw=>h w (List.mem_of_mem_drop hw)).1
 omega
set_option maxHeartbeats 16000000 in
theorem GS (x:Int×List (List Ix)) (inp:List Int) (y:Pm) (sc:List (Int×Int)) (hx:x.2.length≤9223372036854775807):FnP Tryz.prog 5 [.agg (Go.Proofs.YtelibaobkcokdaaGreat.aPr x.1 x.2),aInts inp,.agg (aPr y),aPxs sc] fun a=>a=aBool true:=by
 obtain ⟨m0,fs⟩:=x
 simp only at hx ⊢
 obtain ⟨q,hqf,hqy⟩:∃q:Pm,q.fs=fs∧aPr y=aPr q:=⟨{ y with fs:=fs },rfl,rfl⟩
 subst hqf
 rw[hqy]
 refine ⟨by simp[AV.pureL,AV.pure,Go.Proofs.YtelibaobkcokdaaGreat.Z01,J28,Z81,aPxs_pure],FnG.fz ?_⟩
 refine Gd Z29 mixed rfl ?_
 simp only[Q37]
 have hac:(AV.agg (Go.Proofs.YtelibaobkcokdaaGreat.aPr m0 q.fs)).cells=Go.Proofs.YtelibaobkcokdaaGreat.aPr m0 q.fs:=rfl
 have haq:(AV.agg (aPr q)).cells=aPr q:=rfl
 have c2:cellsA (some 2) (Go.Proofs.YtelibaobkcokdaaGreat.aPr m0 q.fs)=some (.agg (Go.Proofs.YtelibaobkcokdaaGreat.aPr m0 q.fs)):=rfl
 have c7:cellsA (some 7) (aPr q)=some (.agg (aPr q)):=rfl
 have x7:(AV.agg (aPr q)).exact=true:=rfl
 have hII:aInts inp=.sl inp.length (inp.map aInt) .none:=rfl
 refine QE (fun ε σ=>(ε 1=aInts inp∧ε 3=aPxs sc∧ε 4=.ep (Go.Proofs.YtelibaobkcokdaaGreat.aPr m0 q.fs)∧ε 6=.ep (aPr q))∧σ=[]) ?_ ?_
 ·intro N X R hN
  push_cast (maxSteps:=999999) -implicitDefEqProofs (disch:=omega)
  refine Qw ?_
  push_cast (maxSteps:=999999) -implicitDefEqProofs (disch:=omega)[hac]
  refine Qw ?_
  push_cast (maxSteps:=999999) -implicitDefEqProofs (disch:=omega)[haq]
  exact hN _ _ ⟨by push_cast (maxSteps:=999999) -implicitDefEqProofs (disch:=omega),rfl⟩
 rintro ε σ ⟨hρ,rfl⟩
 refine Q06 (fun ε σ=>(ε 1=aInts inp∧ε 3=aPxs sc∧ε 4=.ep (Go.Proofs.YtelibaobkcokdaaGreat.aPr m0 q.fs)∧ε 6=.ep (aPr q))∧σ=[]) ?_ ?_
 ·intro N hN
  push_cast (maxSteps:=999999) -implicitDefEqProofs (disch:=omega)[hρ]
  refine Qn GI ?_
  rintro a rfl
  push_cast (maxSteps:=999999) -implicitDefEqProofs (disch:=omega)[aBool]
  exact hN _ _ ⟨by push_cast (maxSteps:=999999) -implicitDefEqProofs (disch:=omega)[hρ],rfl⟩
 clear hρ ε
 rintro ε σ ⟨hρ,rfl⟩
 refine Q06 (fun ε σ=>(ε 1=aInts inp∧ε 3=aPxs sc∧ε 4=.ep (Go.Proofs.YtelibaobkcokdaaGreat.aPr m0 q.fs)∧ε 6=.ep (aPr q))∧σ=[]∧okF q.fs∧inp.length≤1000∧sc.length≤20000) ?_ ?_
 ·intro N hN
  push_cast (maxSteps:=999999) -implicitDefEqProofs (disch:=omega)[hρ,c2,c7]
  refine Qn (GO m0 q.fs hx inp q sc) ?_
  rintro a ⟨b,rfl,hb⟩
  cases b with
  | true=>
   push_cast (maxSteps:=999999) -implicitDefEqProofs (disch:=omega)[aBool]
   first|exact ⟨[],rfl,rfl⟩|exact ⟨[],rfl⟩
  | false=>
   obtain ⟨hf,h1,h2⟩:=hb rfl
   push_cast (maxSteps:=999999) -implicitDefEqProofs (disch:=omega)[aBool]
   exact hN _ _ ⟨by push_cast (maxSteps:=999999) -implicitDefEqProofs (disch:=omega)[hρ],rfl,hf,h1,h2⟩
 clear hρ ε hx
 rintro ε σ ⟨hρ,rfl,hf,hi,hsc⟩
 have hsrc:∀σ:Kx.St,srcA σ 1 (aInts inp)=some (inp.length,inp.map aInt):=fun _=>rfl
 have h1:(inp.map aInt).all AV.one=true:=by rw[List.all_map];exact List.all_eq_true.2 fun x _=>rfl
 have hOwn:=J42 m0 q.fs hf
 by_cases he:coreE m0 q.fs inp q=0
 rotate_left
 ·push_cast (maxSteps:=999999) -implicitDefEqProofs (disch:=omega)[hρ,c2,c7,x7]
  refine both2 ?_ ?_
  ·refine Qn hOwn ?_
   rintro a rfl
   push_cast (maxSteps:=999999) -implicitDefEqProofs (disch:=omega)[hρ,c2,c7,x7]
   refine Q15 (sz:=1) (by simp) (by simp) ?_
   push_cast (maxSteps:=999999) -implicitDefEqProofs (disch:=omega)[hρ,c2,c7,x7]
   refine Q10 (n:=0) (cs:=[]) (m:=inp.length) rfl (hsrc _) (by simp) h1 rfl (by omega) (by omega) ?_
   push_cast (maxSteps:=999999) -implicitDefEqProofs (disch:=omega)[hρ,c2,c7,x7]
   refine Q0 (Y35 m0 q hf inp he _) ?_
   rintro a σ' ⟨rfl,hs⟩
   rw[hs];clear hs σ'
   push_cast (maxSteps:=999999) -implicitDefEqProofs (disch:=omega)[hρ,aInt,he]
   first|exact ⟨[],rfl,rfl⟩|exact ⟨[],rfl⟩
  ·refine Q15 (sz:=1) (by simp) (by simp) ?_
   push_cast (maxSteps:=999999) -implicitDefEqProofs (disch:=omega)[hρ,c2,c7,x7]
   refine Qn hOwn ?_
   rintro a rfl
   push_cast (maxSteps:=999999) -implicitDefEqProofs (disch:=omega)[hρ,c2,c7,x7]
   refine Q10 (n:=0) (cs:=[]) (m:=inp.length) rfl (hsrc _) (by simp) h1 rfl (by omega) (by omega) ?_
   push_cast (maxSteps:=999999) -implicitDefEqProofs (disch:=omega)[hρ,c2,c7,x7]
   refine Q0 (Y35 m0 q hf inp he _) ?_
   rintro a σ' ⟨rfl,hs⟩
   rw[hs];clear hs σ'
   push_cast (maxSteps:=999999) -implicitDefEqProofs (disch:=omega)[hρ,aInt,he]
   first|exact ⟨[],rfl,rfl⟩|exact ⟨[],rfl⟩
 obtain ⟨M,rfl⟩:∃M:Nat,m0=M:=⟨m0.toNat,by have:=coreE_m he;omega⟩
 refine QE (fun ε σ'=>∃jm,(ε 9=.ref jm 0 0∧ε 10=.v (.int .i64 0)∧ε 3=aPxs sc∧ε 6=.ep (aPr q))∧∃pl,MaR [] jm q pl σ' (mkM q M inp) 0) ?_ ?_
 ·intro N X R hN
  push_cast (maxSteps:=999999) -implicitDefEqProofs (disch:=omega)[hρ,c2,c7,x7]
  refine both2 ?_ ?_
  ·refine Qn hOwn ?_
   rintro a rfl
   push_cast (maxSteps:=999999) -implicitDefEqProofs (disch:=omega)[hρ,c2,c7,x7]
   refine Q15 (sz:=1) (by simp) (by simp) ?_
   push_cast (maxSteps:=999999) -implicitDefEqProofs (disch:=omega)[hρ,c2,c7,x7]
   refine Q10 (n:=0) (cs:=[]) (m:=inp.length) rfl (hsrc _) (by simp) h1 rfl (by omega) (by omega) ?_
   push_cast (maxSteps:=999999) -implicitDefEqProofs (disch:=omega)[hρ,c2,c7,x7]
   refine Q0 (XD M q hf inp he []) ?_
   rintro a σ' ⟨jm,rfl,pl,h⟩
   push_cast (maxSteps:=999999) -implicitDefEqProofs (disch:=omega)[hρ,aInt]
   exact hN _ _ ⟨jm,by push_cast (maxSteps:=999999) -implicitDefEqProofs (disch:=omega)[hρ],pl,h⟩
  ·refine Q15 (sz:=1) (by simp) (by simp) ?_
   push_cast (maxSteps:=999999) -implicitDefEqProofs (disch:=omega)[hρ,c2,c7,x7]
   refine Qn hOwn ?_
   rintro a rfl
   push_cast (maxSteps:=999999) -implicitDefEqProofs (disch:=omega)[hρ,c2,c7,x7]
   refine Q10 (n:=0) (cs:=[]) (m:=inp.length) rfl (hsrc _) (by simp) h1 rfl (by omega) (by omega) ?_
   push_cast (maxSteps:=999999) -implicitDefEqProofs (disch:=omega)[hρ,c2,c7,x7]
   refine Q0 (XD M q hf inp he []) ?_
   rintro a σ' ⟨jm,rfl,pl,h⟩
   push_cast (maxSteps:=999999) -implicitDefEqProofs (disch:=omega)[hρ,aInt]
   exact hN _ _ ⟨jm,by push_cast (maxSteps:=999999) -implicitDefEqProofs (disch:=omega)[hρ],pl,h⟩
 clear hρ ε
 rintro ε σ ⟨jm,hρ,pl,h⟩
 have hok:=h.ma.mm.sd.ok
 refine Q06 (fun ε σ'=>(ε 9=.ref jm 0 0∧ε 3=aPxs sc∧ε 6=.ep (aPr q))∧σ'=σ) ?_ ?_
 ·intro N hN
  push_cast (maxSteps:=999999) -implicitDefEqProofs (disch:=omega)[hρ]
  exact hN _ _ ⟨by push_cast (maxSteps:=999999) -implicitDefEqProofs (disch:=omega)[hρ],rfl⟩
 clear hρ ε
 rintro ε σ' ⟨hρ,e⟩
 rw[e];clear e σ'
 refine QE (fun ε σ'=>(ε 9=.ref jm 0 0∧ε 3=aPxs sc∧ε 6=.ep (aPr q)∧ε 11=.v (.int .i64 0))∧σ'=σ) ?_ ?_
 ·intro N X R hN
  push_cast (maxSteps:=999999) -implicitDefEqProofs (disch:=omega)[hρ]
  exact hN _ _ ⟨by push_cast (maxSteps:=999999) -implicitDefEqProofs (disch:=omega)[hρ],rfl⟩
 clear hρ ε
 rintro ε σ' ⟨hρ,e⟩
 rw[e];clear e σ'
 have hPP:aPxs sc=.sl sc.length (sc.flatMap aPx) .none:=rfl
 refine QE (fun ε σ=>∃pl m,∃n:Nat,(ε 9=.ref jm 0 0∧ε 6=.ep (aPr q)∧ε 11=.v (.int .i64 n))∧MaM jm q pl σ m∧Cnt q m n) ?_ ?_
 ·intro N X R hN
  push_cast (maxSteps:=999999) -implicitDefEqProofs (disch:=omega)[hρ]
  refine Ga (α:=Nat) (I:=fun k ε σ=>∃pl m,∃n:Nat,(ε 9=.ref jm 0 0∧ε 3=aPxs sc∧ε 6=.ep (aPr q)∧ε 11=.v (.int .i64 (n:Nat))∧ε 12=.v (.int .i64 k))∧k≤sc.length∧MaR [] jm q pl σ m k∧Cnt q m n)
   (μ:=fun k=>sc.length - k) (Q:=fun ε σ=>∃pl m,∃n:Nat,(ε 9=.ref jm 0 0∧ε 6=.ep (aPr q)∧ε 11=.v (.int .i64 (n:Nat)))∧MaM jm q pl σ m∧Cnt q m n) (x:=0) ?_ ?_ hN
  ·exact ⟨pl,mkM q M inp,0,by push_cast (maxSteps:=999999) -implicitDefEqProofs (disch:=omega)[hρ],by omega,h,mkM_cnt hok M inp⟩
  ·clear hN N X R hρ ε h pl σ
   rintro k ε σ N E X R ⟨pl,m,n,hρ,hk,h,hC⟩ hN hE
   simp only[Q26]
   by_cases hlt:k < sc.length
   ·obtain ⟨o,ho⟩:=Q42 hlt
    have hd:=Q24 aPx_len ho
    have hnn:=hC.nn
    push_cast (maxSteps:=999999) -implicitDefEqProofs (disch:=omega)[hρ,hPP]
    refine Q0 (Q36 h.ma) ?_
    rintro a σ' ⟨rfl,hs⟩
    rw[hs];clear hs σ'
    cases c:m.ended with
    | true=>
     have e:=step_end (q:=q) c o.1 o.2
     push_cast (maxSteps:=999999) -implicitDefEqProofs (disch:=omega)[hρ,aBool,hPP,hd,c2k]
     refine Q0 (Z77 h (by omega) o.1 o.2) ?_
     rintro a σ' ⟨rfl,pl',h'⟩
     rw[e] at h'
     push_cast (maxSteps:=999999) -implicitDefEqProofs (disch:=omega)[hρ]
     exact hN (k+1) _ _ ⟨pl',m,n,by push_cast (maxSteps:=999999) -implicitDefEqProofs (disch:=omega)[hρ,hPP],by omega,h',hC⟩ (by omega)
    | false=>
     have hC':=hC.step (by have:=hok.1;omega) c o.1 o.2
     have hw:=w64_sm (n:=(n:Int)+1) (by omega) (by omega)
     push_cast (maxSteps:=999999) -implicitDefEqProofs (disch:=omega)[hρ,aBool,hPP,hd,c2k,hw]
     refine Q0 (Z77 h (by omega) o.1 o.2) ?_
     rintro a σ' ⟨rfl,pl',h'⟩
     push_cast (maxSteps:=999999) -implicitDefEqProofs (disch:=omega)[hρ]
     exact hN (k+1) _ _ ⟨pl',m.step q o.1 o.2,n+1,by push_cast (maxSteps:=999999) -implicitDefEqProofs (disch:=omega)[hρ,hPP],by omega,h',hC'⟩ (by omega)
   ·push_cast (maxSteps:=999999) -implicitDefEqProofs (disch:=omega)[hρ,hPP]
    exact hE _ _ ⟨pl,m,n,by push_cast (maxSteps:=999999) -implicitDefEqProofs (disch:=omega)[hρ],h.ma,hC⟩
 clear hρ ε h pl σ
 rintro ε σ ⟨pl,m,n,hρ,h,hC⟩
 have hcl:(AV.agg (aSt m.c m.c.peak)).cells=aSt m.c m.c.peak:=rfl
 have hz:setAtA [AV.v (.int .i64 0),AV.v (.int .i64 0),AV.v (.int .i64 0),AV.v (.int .i64 0),AV.v (.int .i64 0),AV.v (.int .i64 0),AV.v (.int .i64 0)] 0 (aSt m.c m.c.peak)=aSt m.c m.c.peak:=rfl
 refine QE (fun ε σ'=>(ε 9=.ref jm 0 0∧ε 6=.ep (aPr q)∧ε 11=.v (.int .i64 n)∧ε 13=.ref σ.length 0 0)∧σ'=σ++[.obj 0 (aSt m.c m.c.peak)]) ?_ ?_
 ·intro N X R hN
  push_cast (maxSteps:=999999) -implicitDefEqProofs (disch:=omega)[hρ]
  refine Q0 (XZ h) ?_
  rintro a σ' ⟨rfl,hs⟩
  rw[hs];clear hs σ'
  push_cast (maxSteps:=999999) -implicitDefEqProofs (disch:=omega)[fld_st]
  refine QB ?_
  push_cast (maxSteps:=999999) -implicitDefEqProofs (disch:=omega)[hcl]
  refine Qt (cs:=[AV.v (.int .i64 0),AV.v (.int .i64 0),AV.v (.int .i64 0),AV.v (.int .i64 0),AV.v (.int .i64 0),AV.v (.int .i64 0),AV.v (.int .i64 0)]) rfl rfl (Qu _ _) (Nat.le_refl 7) ?_
  rw[hz,QC]
  push_cast (maxSteps:=999999) -implicitDefEqProofs (disch:=omega)[hρ]
  exact hN _ _ ⟨by push_cast (maxSteps:=999999) -implicitDefEqProofs (disch:=omega)[hρ],rfl⟩
 clear hρ ε
 rintro ε σ' ⟨hρ,rfl⟩
 have hA:=h.app [.obj 0 (aSt m.c m.c.peak)]
 have hb:(σ++[Res.obj 0 (aSt m.c m.c.peak)])[σ.length]?=some (.obj 0 (aSt m.c m.c.peak)):=Qu _ _
 have hVV:aVws m.l=.sl m.l.length (m.l.flatMap aVw) .none:=rfl
 generalize σ++[Res.obj 0 (aSt m.c m.c.peak)]=S at hA hb
 refine QE (fun ε σ'=>(ε 9=.ref jm 0 0∧ε 6=.ep (aPr q)∧ε 11=.v (.int .i64 n)∧ε 13=.ref σ.length 0 0∧ε 14=.v (.int .i64 0))∧σ'=S) ?_ ?_
 ·intro N X R hN
  push_cast (maxSteps:=999999) -implicitDefEqProofs (disch:=omega)[hρ]
  exact hN _ _ ⟨by push_cast (maxSteps:=999999) -implicitDefEqProofs (disch:=omega)[hρ],rfl⟩
 clear hρ ε
 rintro ε σ' ⟨hρ,e⟩
 rw[e];clear e σ'
 refine QE (fun ε σ'=>(ε 6=.ep (aPr q)∧ε 11=.v (.int .i64 n)∧ε 13=.ref σ.length 0 0∧ε 14=.v (.int .i64 0)∧ε 15=aVws m.l)∧σ'=S) ?_ ?_
 ·intro N X R hN
  push_cast (maxSteps:=999999) -implicitDefEqProofs (disch:=omega)[hρ]
  refine Q0 (Xi hA) ?_
  rintro a σ' ⟨rfl,hs⟩
  rw[hs];clear hs σ'
  push_cast (maxSteps:=999999) -implicitDefEqProofs (disch:=omega)[hρ]
  exact hN _ _ ⟨by push_cast (maxSteps:=999999) -implicitDefEqProofs (disch:=omega)[hρ],rfl⟩
 clear hρ ε
 rintro ε σ' ⟨hρ,e⟩
 rw[e];clear e σ'
 have hpr:=hC.pr
 have hpn:=hC.pn
 have hnn:=hC.nn
 refine QE (fun ε σ'=>(ε 6=.ep (aPr q)∧ε 11=.v (.int .i64 n)∧ε 13=.ref σ.length 0 0∧ε 14=.v (.int .i64 m.c.probes))∧σ'=S) ?_ ?_
 ·intro N X R hN
  push_cast (maxSteps:=999999) -implicitDefEqProofs (disch:=omega)[hρ]
  refine Ga (α:=Nat) (I:=fun k ε σ'=>(ε 6=.ep (aPr q)∧ε 11=.v (.int .i64 n)∧ε 13=.ref σ.length 0 0∧ε 14=.v (.int .i64 ((m.l.take k).map Wk.probed).sum)∧ε 15=aVws m.l∧ε 16=.v (.int .i64 k))∧k≤m.l.length∧σ'=S)
   (μ:=fun k=>m.l.length - k) (Q:=fun ε σ'=>(ε 6=.ep (aPr q)∧ε 11=.v (.int .i64 n)∧ε 13=.ref σ.length 0 0∧ε 14=.v (.int .i64 m.c.probes))∧σ'=S) (x:=0) ?_ ?_ hN
  ·have e0:((m.l.take 0).map Wk.probed).sum=0:=rfl
   refine ⟨by rw[e0];push_cast (maxSteps:=999999) -implicitDefEqProofs (disch:=omega)[hρ],by omega,rfl⟩
  ·clear hN N X R hρ ε
   rintro k ε σ' N E X R ⟨hρ,hk,rfl⟩ hN hE
   simp only[Q27]
   by_cases hlt:k < m.l.length
   ·obtain ⟨w,hw⟩:=Q42 hlt
    have hd:=Q24 aVw_len hw
    have f3:(m.l.flatMap aVw)[k * 4+3]?=some (.v (.int .i64 w.probed)):=by have:=congrArg (fun l=>l[3]?) hd;rw[List.getElem?_drop] at this;exact this
    have hs:=sum_take Wk.probed hw
    have hkb:m.l.length≤64:=by have:=hC.ln;have:=hok.1;omega
    have hp:=sum_part Wk.probed hC.p0 (k+1)
    have hww:=w64_sm (n:=((m.l.take k).map Wk.probed).sum+w.probed) (by omega) (by omega)
    push_cast (maxSteps:=999999) -implicitDefEqProofs (disch:=omega)[hρ,hVV,f3,hww]
    refine hN (k+1) _ _ ⟨?_,by omega,rfl⟩ (by omega)
    rw[hs];push_cast (maxSteps:=999999) -implicitDefEqProofs (disch:=omega)[hρ]
   ·push_cast (maxSteps:=999999) -implicitDefEqProofs (disch:=omega)[hρ,hVV]
    obtain rfl:k=m.l.length:=by omega
    rw[List.take_length,←hpr] at hρ
    exact hE _ _ ⟨by push_cast (maxSteps:=999999) -implicitDefEqProofs (disch:=omega)[hρ],rfl⟩
 clear hρ ε
 rintro ε σ' ⟨hρ,e⟩
 rw[e];clear e σ'
 have g0:(aSt m.c m.c.peak)[0]?=some (.v (.int .i64 m.c.steps)):=rfl
 have g1:(aSt m.c m.c.peak)[1]?=some (.v (.int .i64 m.c.probes)):=rfl
 have g2:(aSt m.c m.c.peak)[2]?=some (.v (.int .i64 m.c.steals)):=rfl
 have g3:(aSt m.c m.c.peak)[3]?=some (.v (.int .i64 m.c.parks)):=rfl
 have g4:(aSt m.c m.c.peak)[4]?=some (.v (.int .i64 m.c.naps)):=rfl
 have g5:(aSt m.c m.c.peak)[5]?=some (.v (.int .i64 m.c.folds)):=rfl
 have g6:(aSt m.c m.c.peak)[6]?=some (.v (.int .i64 m.c.peak)):=rfl
 obtain ⟨⟨e1,e2,e3⟩,e4⟩:=hC.ct
 have est:=hC.st
 have w1:=w64_sm (n:=m.c.naps+m.c.parks) (by omega) (by omega)
 have w2:=w64_sm (n:=m.c.naps+m.c.parks+m.c.folds) (by omega) (by omega)
 have hsum:=(sum_ge st1 (l:=m.l) fun w _=>by unfold st1;split<;>omega).1
 have d1:m.c.steals≤m.c.probes:=by have:=hC.sl;omega
 have d2:1≤m.c.peak:=hC.pk
 have d3:m.c.peak≤q.F:=hC.ar.pk.2
 have d4:m.c.naps+m.c.parks+m.c.folds≤(n:Int):=by omega
 rw[est] at g0
 generalize aSt m.c m.c.peak=SS at hb g0 g1 g2 g3 g4 g5 g6
 by_cases cW:1 < q.W
 ·push_cast (maxSteps:=999999) -implicitDefEqProofs (disch:=omega)[hρ,hb,g0,g1,g2,g3,g4,g5,g6,q_0,q_2,d1,d2,d3,d4,w1,w2,cW]
  first|exact ⟨[],rfl,rfl⟩|exact ⟨[],rfl⟩
 ·have d5:=(hC.one (by have:=hok.1;omega)).1
  rw[d5] at g2 d1
  push_cast (maxSteps:=999999) -implicitDefEqProofs (disch:=omega)[hρ,hb,g0,g1,g2,g3,g4,g5,g6,q_0,q_2,d1,d2,d3,d4,w1,w2,cW]
  first|exact ⟨[],rfl,rfl⟩|exact ⟨[],rfl⟩
end Go.Proofs.YtelibaobkcokdaaGreat.Mx
