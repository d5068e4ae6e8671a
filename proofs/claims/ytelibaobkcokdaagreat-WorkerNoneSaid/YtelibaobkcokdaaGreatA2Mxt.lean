/- WorkerNone: works; the walk. -/
import Derived.Test.YtelibaobkcokdaaGreatA2Mxs
namespace Go.Proofs.YtelibaobkcokdaaGreat.Mx
set_option linter.unusedVariables false
set_option linter.unusedSimpArgs false
open Go Go.Kx Go.Proofs Go.Proofs.YtelibaobkcokdaaGreat
set_option maxRecDepth 8000
set_option maxHeartbeats 8000000 in
theorem JW:FnP Tryz.prog 12 [] fun a=>a=aBool true:=by
 refine Qf XU mixed rfl rfl ?_
 simp only[Q87]
 refine Qj (fun ε σ=>σ=[]) ?_ ?_
 ·intro N X R hN
  push_cast (maxSteps:=999999) -implicitDefEqProofs (disch:=omega)
  exact hN _ _ rfl
 rintro ε σ rfl
 refine Qj (fun ε σ=>∃jc,(ε 1=.ref jc 0 0∧ε 2=.v (.int .i64 0))∧∃pl,jc=pl.p .c∧MM q2 pl σ [] (mk0 q2 0 [])) ?_ ?_
 ·intro N X R hN
  push_cast (maxSteps:=999999) -implicitDefEqProofs (disch:=omega)
  refine Q1 law26_two_a ?_
  rintro a rfl
  have hb:fillA [AV.v (.int .i64 0),AV.v (.int .i64 0),AV.v (.int .i64 0),AV.v (.int .i64 0),AV.v (.int .i64 0),AV.v (.bool false),AV.v (.bool false)] [(0,1),(1,1),(2,1),(3,1),(4,1)] [AV.v (.int .i64 1),AV.v (.int .i64 1),AV.v (.int .i64 3),AV.v (.int .i64 4),AV.v (.int .i64 2)]=some (aPr q2):=rfl
  push_cast (maxSteps:=999999) -implicitDefEqProofs (disch:=omega)[hb]
  refine wpa_callwG [] [false,true] (core_New_n 0 q2 two_ok [] two_core []) rfl ?_
  rintro a σ' ⟨pl,rfl,h,_,_⟩
  push_cast (maxSteps:=999999) -implicitDefEqProofs (disch:=omega)[aInt]
  exact hN _ _ ⟨pl.p .c,by push_cast (maxSteps:=999999) -implicitDefEqProofs (disch:=omega),pl,rfl,h⟩
 rintro ε σ ⟨jc,hρ,pl,ec,h⟩
 refine Qj (fun ε σ'=>∃jw,(ε 1=.ref jc 0 0∧ε 2=.v (.int .i64 0)∧ε 3=.ref jw 0 0)∧∃pl',WM q2 [wkNew 0] 0 jw jc pl' σ' pl' σ' (wkNew 0,mk0 q2 0 [])) ?_ ?_
 ·intro N X R hN
  push_cast (maxSteps:=999999) -implicitDefEqProofs (disch:=omega)[hρ]
  refine Q0 (YK 0 σ) ?_
  rintro a σ' ⟨rfl,e3⟩
  rw[e3 (pl.put (.wk 0) σ.length) 0]
  clear e3
  have h':=h.newWk 0
  push_cast (maxSteps:=999999) -implicitDefEqProofs (disch:=omega)[hρ]
  refine hN _ _ ⟨σ.length,by push_cast (maxSteps:=999999) -implicitDefEqProofs (disch:=omega)[hρ],pl.put (.wk 0) σ.length,h',Nat.zero_lt_one,Qh _ _ _,?_,.refl _ _⟩
  rw[Q07 (by simp)];exact ec.symm
 clear hρ ε h ec pl
 rintro ε σ' ⟨jw,hρ,pl,h⟩
 refine ZY (fun ε σ2=>(ε 1=.ref jc 0 0∧ε 3=.ref jw 0 0)∧σ2=σ') ?_ ?_
 ·intro N hN
  push_cast (maxSteps:=999999) -implicitDefEqProofs (disch:=omega)[hρ]
  exact hN _ _ ⟨by push_cast (maxSteps:=999999) -implicitDefEqProofs (disch:=omega)[hρ],rfl⟩
 clear hρ ε
 rintro ε σ2 ⟨hρ,e⟩
 rw[e];clear e σ2
 refine Qj (fun ε σ2=>(ε 1=.ref jc 0 0∧ε 3=.ref jw 0 0)∧∃pl',WM q2 [wkNew 0] 0 jw jc pl σ' pl' σ2 (xs2 0)) ?_ ?_
 ·intro N X R hN
  push_cast (maxSteps:=999999) -implicitDefEqProofs (disch:=omega)[hρ]
  refine Q0 (w_Start_a h 1) ?_
  rintro a σ2 ⟨pl2,h2⟩
  push_cast (maxSteps:=999999) -implicitDefEqProofs (disch:=omega)[hρ]
  exact hN _ _ ⟨by push_cast (maxSteps:=999999) -implicitDefEqProofs (disch:=omega)[hρ],pl2,h2⟩
 clear hρ ε
 rintro ε σ2 ⟨hρ,pl2,h2⟩
 refine Qj (fun ε σ2=>(ε 1=.ref jc 0 0∧ε 3=.ref jw 0 0)∧∃pl',WM q2 [wkNew 0] 0 jw jc pl σ' pl' σ2 (xs2 60)) ?_ ?_
 ·intro N X R hN
  push_cast (maxSteps:=999999) -implicitDefEqProofs (disch:=omega)[hρ]
  refine wpa_blx (α:=Nat) (I:=fun n ε σ2=>(ε 1=.ref jc 0 0∧ε 3=.ref jw 0 0∧ε 4=.v (.int .i64 n))∧n≤60∧∃pl',WM q2 [wkNew 0] 0 jw jc pl σ' pl' σ2 (xs2 n))
   (μ:=fun n=>60 - n) (Q:=fun ε σ2=>(ε 1=.ref jc 0 0∧ε 3=.ref jw 0 0)∧∃pl',WM q2 [wkNew 0] 0 jw jc pl σ' pl' σ2 (xs2 60)) (x:=0) ?_ ?_ hN
  ·push_cast (maxSteps:=999999) -implicitDefEqProofs (disch:=omega)[hρ]
   first|exact ⟨by omega,pl2,h2⟩|exact ⟨pl2,h2⟩
  ·clear hN N X R hρ ε h2 pl2 σ2
   rintro n ε σ2 N E X R ⟨hρ,hn,pl2,h2⟩ hN hE
   simp only[Q18]
   by_cases hlt:n < 60
   ·have hx:=xs2_ok n
    push_cast (maxSteps:=999999) -implicitDefEqProofs (disch:=omega)[hρ]
    refine Q0 (w_Step_a h2 hx.wk (by have:=hx.lg;omega) (by have:=hx.bk;omega) hx.fr.1 0) ?_
    rintro a σ3 ⟨pl3,h3⟩
    push_cast (maxSteps:=999999) -implicitDefEqProofs (disch:=omega)[hρ]
    exact hN (n+1) _ _ ⟨by push_cast (maxSteps:=999999) -implicitDefEqProofs (disch:=omega)[hρ],by omega,pl3,h3⟩ (by omega)
   ·push_cast (maxSteps:=999999) -implicitDefEqProofs (disch:=omega)[hρ]
    obtain rfl:n=60:=by omega
    exact hE _ _ ⟨by push_cast (maxSteps:=999999) -implicitDefEqProofs (disch:=omega)[hρ],pl2,h2⟩
 clear hρ ε h2 pl2 σ2
 rintro ε σ2 ⟨hρ,pl2,h2⟩
 obtain ⟨s1,s2,s3⟩:=xs2_end
 generalize xs2 60=X at h2 s1 s2 s3
 have hmm:=h2.mm
 have ec:=h2.ec
 have ew:=h2.ew
 have hou:aIntsN X.2.out=aInts [7]:=by rw[s2];rfl
 have hSt:=X78 hmm
 rw[ec,s1] at hSt
 have hOut:=Je hmm
 rw[ec] at hOut
 have hVw:=JU hmm h2.hk
 rw[ew] at hVw
 refine Qj (fun ε σ3=>(ε 1=.ref jc 0 0∧ε 3=.ref jw 0 0∧ε 5=.v (.int .i64 1))∧σ3=σ2) ?_ ?_
 ·intro N X R hN
  push_cast (maxSteps:=999999) -implicitDefEqProofs (disch:=omega)[hρ]
  refine Q0 hSt ?_
  rintro a σ3 ⟨rfl,hs⟩
  rw[hs];clear hs σ3
  push_cast (maxSteps:=999999) -implicitDefEqProofs (disch:=omega)[aInt,hρ]
  exact hN _ _ ⟨by push_cast (maxSteps:=999999) -implicitDefEqProofs (disch:=omega)[hρ],rfl⟩
 clear hρ ε
 rintro ε σ3 ⟨hρ,e⟩
 rw[e];clear e σ3
 push_cast (maxSteps:=999999) -implicitDefEqProofs (disch:=omega)[hρ]
 refine Q0 hOut ?_
 rintro a σ3 ⟨rfl,hs⟩
 rw[hs];clear hs σ3
 push_cast (maxSteps:=999999) -implicitDefEqProofs (disch:=omega)[hρ]
 refine Q0 (sink_All_a hmm) ?_
 rintro a σ3 ⟨rfl,hs⟩
 rw[hs,hou];clear hs σ3
 push_cast (maxSteps:=999999) -implicitDefEqProofs (disch:=omega)[hρ]
 refine ZX (sz:=1) (by intro a ha;simp at ha;subst ha;rfl) (by simp) ?_
 push_cast (maxSteps:=999999) -implicitDefEqProofs (disch:=omega)
 refine wpa_callw [] [false,true] (law05_Ints_a [7] [7] (by simp) (by simp)) rfl ?_
 rintro a rfl
 rw[fzn,beq_self_eq_true]
 push_cast (maxSteps:=999999) -implicitDefEqProofs (disch:=omega)[hρ,aBool]
 refine Q0 (hVw) ?_
 rintro a σ3 ⟨rfl,hs⟩
 rw[hs];clear hs σ3
 have hf:PF.av (.fld 0 none) [.agg (aVw X.1)]=some (.v (.int .i64 4)):=by rw[←s3];rfl
 push_cast (maxSteps:=999999) -implicitDefEqProofs (disch:=omega)[hρ,hf]
 first|exact ⟨[],rfl,rfl⟩|exact ⟨[],rfl⟩
theorem eqs4v (a b c d a' b' c' d':Int):PF.av (.eqs false [.int .i64,.int .i64,.int .i64,.int .i64]) [.agg (aV4 a b c d),.agg (aV4 a' b' c' d')]=some (.v (.bool (decide (a=a')&&(decide (b=b')&&(decide (c=c')&&decide (d=d')))))):=by
 show ((PF.val (.eqs false [.int .i64,.int .i64,.int .i64,.int .i64]) [.agg [.int .i64 a,.int .i64 b,.int .i64 c,.int .i64 d].toArray,.agg [.int .i64 a',.int .i64 b',.int .i64 c',.int .i64 d'].toArray]).map AV.v)=_
 have k (u v:Int):(u==v)=decide (u=v):=by rw[Bool.eq_iff_iff];simp
 by_cases h1:a=a'<;>by_cases h2:b=b'<;>by_cases h3:c=c'<;>by_cases h4:d=d'<;>simp[PF.val,eqCs,eqC,k,h1,h2,h3,h4]
set_option maxHeartbeats 8000000 in
theorem WorkerNone_a (own id victim:Int):FnP Tryz.prog 3 [.v (.int .i64 own),.v (.int .i64 id),.v (.int .i64 victim)] fun a=>a=aBool true:=by
 refine Qf Z01 mixed rfl (by simp[AV.pureL,AV.pure]) ?_
 simp only[QY]
 have b0:fillA [AV.v (.int .i64 0),AV.v (.int .i64 0),AV.v (.int .i64 0),AV.v (.int .i64 0)] [] []=some (aV4 0 0 0 0):=rfl
 have b2:∀i:Int,fillA [AV.v (.int .i64 0),AV.v (.int .i64 0),AV.v (.int .i64 0),AV.v (.int .i64 0)] [(0,1),(1,1)] [.v (.int .i64 4),.v (.int .i64 i)]=some (aV4 4 i 0 0):=fun _=>rfl
 have hz:∀l:List AV,l.length=4→setAtA [AV.v (.int .i64 0),AV.v (.int .i64 0),AV.v (.int .i64 0),AV.v (.int .i64 0)] 0 l=l:=fun l hl=>QR (by rw[hl];rfl)
 have c4:∀a b c d:Int,cellsA (some 4) (aV4 a b c d)=some (.agg (aV4 a b c d)):=fun _ _ _ _=>rfl
 have v0:aVw (wkNew own)=aV4 0 0 0 0:=rfl
 have v1:aVw ((wkNew own).runs id)=aV4 4 id 0 0:=rfl
 have hac:∀a b c d:Int,(AV.agg (aV4 a b c d)).cells=aV4 a b c d:=fun _ _ _ _=>rfl
 push_cast (maxSteps:=999999) -implicitDefEqProofs (disch:=omega)
 refine Q1 JW ?_
 rintro a rfl
 push_cast (maxSteps:=999999) -implicitDefEqProofs (disch:=omega)[aBool]
 refine Q0 (Y04 id _) ?_
 rintro a σ3 hs
 rw[hs];clear hs σ3
 push_cast (maxSteps:=999999) -implicitDefEqProofs (disch:=omega)
 refine Q0 (Y73 victim _) ?_
 rintro a σ3 hs
 rw[hs];clear hs σ3
 push_cast (maxSteps:=999999) -implicitDefEqProofs (disch:=omega)
 refine Q0 (YK own []) ?_
 rintro a σ' ⟨rfl,e3⟩
 rw[e3 ⟨fun _=>0,none,none,none,.nil⟩ 0];clear e3
 push_cast (maxSteps:=999999) -implicitDefEqProofs (disch:=omega)
 refine Q0 (X81 (pl:=⟨fun _=>0,none,none,none,.nil⟩) (k:=0) (w:=wkNew own) rfl) ?_
 rintro a σ3 ⟨rfl,hs⟩
 rw[hs,v0];clear hs σ3
 push_cast (maxSteps:=999999) -implicitDefEqProofs (disch:=omega)
 refine Qb ?_
 push_cast (maxSteps:=999999) -implicitDefEqProofs (disch:=omega)
 refine Q8 (cs:=[AV.v (.int .i64 0),AV.v (.int .i64 0),AV.v (.int .i64 0),AV.v (.int .i64 0)]) (l:=aV4 0 0 0 0) rfl rfl rfl (Nat.le_refl 4) ?_
 rw[hz _ rfl]
 push_cast (maxSteps:=999999) -implicitDefEqProofs (disch:=omega)
 refine Q0 (Y89 (pl:=⟨fun _=>0,none,none,none,.nil⟩) (k:=0) (w:=wkNew own) rfl id) ?_
 rintro a σ3 rfl
 push_cast (maxSteps:=999999) -implicitDefEqProofs (disch:=omega)
 refine Q0 (Y05 _ victim _) ?_
 rintro a σ3 hs
 rw[hs];clear hs σ3
 push_cast (maxSteps:=999999) -implicitDefEqProofs (disch:=omega)
 refine Q0 (Y74 _) ?_
 rintro a σ3 ⟨rfl,hs⟩
 rw[hs];clear hs σ3
 push_cast (maxSteps:=999999) -implicitDefEqProofs (disch:=omega)[b0,eqs4v,c4,Bool.and_self,Bool.true_and]
 refine Q0 (X81 (pl:=⟨fun _=>0,none,none,none,.nil⟩) (k:=0) (w:=(wkNew own).runs id) ?_) ?_
 ·rfl
 rintro a σ3 ⟨rfl,hs⟩
 rw[hs,v1];clear hs σ3
 push_cast (maxSteps:=999999) -implicitDefEqProofs (disch:=omega)[b2,eqs4v,Bool.and_self,Bool.true_and]
 first|exact ⟨[],rfl,rfl⟩|exact ⟨[],rfl⟩
end Go.Proofs.YtelibaobkcokdaaGreat.Mx
