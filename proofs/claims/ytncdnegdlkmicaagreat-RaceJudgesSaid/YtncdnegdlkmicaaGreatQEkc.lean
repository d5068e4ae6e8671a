/- The document's evaluator: ends: the walk. -/
import Derived.Test.YtncdnegdlkmicaaGreatQEkb
namespace Go.Proofs.YtncdnegdlkmicaaGreat.Sr
set_option linter.unusedVariables false
set_option linter.unusedSimpArgs false
open Go Go.Kx Go.Proofs
def endF (F:Sf) (pc:Int) (e:Ef) (s:Sv):Bool×Sv×Sf×Bool:=
 if e.k=9∨e.k=10 then
  if F.kind≠2 then (false,s.stop 4 4,F,false)
  else if goE F.stage e.v≠0 then (false,s.stop 4 3,F,false)
  else (false,s.mark (if e.k=9 then 11 else 12) e.v,{ F with pc:=pc,stage:=e.v },false)
 else if e.k=11 then
  if F.kind≠2 then (true,s.stop 4 4,F,false)
  else if F.stage≠0 then (true,s.stop 4 5,F,false)
  else (true,s.mark 10 F.index,F,true)
 else if F.kind=2 then (true,s.mark 10 F.index,F,false) else (true,s,F,false)
def endL (F:Sf) (lp:List Int):List Int:=if F.kind=2∧F.stage=0 then F.regs else lp
section
variable {m:Int} {fs:List (List Ix)} {fuel:Int} {σ:Kx.St} {iv fi:Nat} {t:DvT} {s:Sv} {F:Sf} {lp:List Int}
set_option maxHeartbeats 32000000 in
theorem ev_ends_a (h:DvAt σ iv m fs fuel t s) (hs:s.status=0) (hf:σ[fi]?=some (.obj 0 (frC F lp false))) (h1:fi≠iv) (h2:fi≠t.j) (pc:Int) (e:Ef) (he:9≤e.k∧e.k≤12) (hm:s.marks.length≤1000000):
  FnG Tryz.prog 50 [.ref iv 0 0,.ref fi 0 0,.v (.int .i64 pc),.agg (aEf e)] σ fun r σ'=>r=aBool (endF F pc e s).1∧∃t',t'.j=t.j∧Kp σ σ' (fun k=>k=iv∨k=fi) ∧
   DvAt σ' iv m fs fuel t' (endF F pc e s).2.1∧σ'[fi]?=some (.obj 0 (frC (endF F pc e s).2.2.1 (endL F lp) (endF F pc e s).2.2.2)):=by
 refine Qk ZQ mixed rfl ?_
 simp only[Q11]
 have hae:(AV.agg (aEf e)).cells=aEf e:=rfl
 have g0:(aEf e)[0]?=some (.v (.int .i64 e.k)):=rfl
 have g2:(aEf e)[2]?=some (.v (.int .i64 e.v)):=rfl
 refine Q1 (fun ε σ1=>∃B,(ε 0=.ref iv 0 0∧ε 1=.ref fi 0 0∧ε 2=.v (.int .i64 pc)∧ε 7=.ref B 0 0)∧DvAt σ1 iv m fs fuel t s∧σ1[fi]?=some (.obj 0 (frC F lp false))∧σ1[B]?=some (.obj 0 (aEf e)) ∧
   (B≠iv∧B≠t.j∧B≠fi)∧Kp σ σ1 (fun k=>k=iv∨k=fi)) ?_ ?_
 ·intro N X R hN
  push_cast (disch:=omega)
  refine Qd ?_
  push_cast (disch:=omega)[hae]
  have a1:=Qm h.obj
  have a2:=Qm h.dat
  have a3:=Qm hf
  exact hN _ _ ⟨σ.length,by push_cast (disch:=omega),h.app _,Q7 hf,Qn _ _,by omega,Kp.app _ _ _⟩
 rintro ε σ1 ⟨B,hρ,hD,hf1,hB,⟨nB1,nB2,nB3⟩,hK⟩
 refine Q1 (fun ε σ1=>(ε 0=.ref iv 0 0∧ε 1=.ref fi 0 0∧ε 2=.v (.int .i64 pc)∧ε 7=.ref B 0 0)∧DvAt σ1 iv m fs fuel t s∧σ1[fi]?=some (.obj 0 (frC F (endL F lp) false))∧σ1[B]?=some (.obj 0 (aEf e))∧Kp σ σ1 (fun k=>k=iv∨k=fi)) ?_ ?_
 ·intro N X R hN
  unfold endL at hN
  by_cases hk:F.kind=2
  ·by_cases hz:F.stage=0
   ·rw[if_pos ⟨hk,hz⟩] at hN
    push_cast (disch:=omega)[hρ,hf1,fr13,hk,fr2,hz,frR]
    refine Q5 rfl (Q04 _) hf1 (by rw[Q25];decide) ?_
    rw[frsL]
    push_cast (disch:=omega)[hρ]
    exact hN _ _ ⟨by push_cast (disch:=omega)[hρ],hD.setO hf1 h1 h2,Q4 hf1,Q0 (Ne.symm nB3) hB,hK.trans (Kp.set (.inr rfl) _)⟩
   ·rw[if_neg (fun c=>hz c.2)] at hN
    push_cast (disch:=omega)[hρ,hf1,fr13,hk,fr2,hz]
    exact hN _ _ ⟨by push_cast (disch:=omega)[hρ],hD,hf1,hB,hK⟩
  ·rw[if_neg (fun c=>hk c.1)] at hN
   push_cast (disch:=omega)[hρ,hf1,fr13,hk]
   exact hN _ _ ⟨by push_cast (disch:=omega)[hρ],hD,hf1,hB,hK⟩
 clear hρ ε hD hf1 hB hK σ1
 rintro ε σ1 ⟨hρ,hD,hf1,hB,hK⟩
 generalize endL F lp=L at hf1 ⊢
 have hstop:∀a b:Int,FnG Tryz.prog 25 [.ref iv 0 0,.v (.int .i64 a),.v (.int .i64 b)] σ1 fun r σ'=>r=.tup []∧DvAt σ' iv m fs fuel t (s.stop a b)∧σ'[fi]?=some (.obj 0 (frC F L false))∧Kp σ σ' (fun k=>k=iv∨k=fi):=fun a b=>
  (Z39 hD hs a b).mono fun r σ' ⟨q1,q2,q3⟩=>⟨q1,q2,q3.2 fi _ h1 hf1,hK.trans (q3.weak fun k hk=>.inl hk)⟩
 have hmark:FnG Tryz.prog 47 [.ref iv 0 0,.v (.int .i64 10),.v (.int .i64 F.index)] σ1 fun r σ'=>r=.tup []∧∃t',t'.j=t.j∧DvAt σ' iv m fs fuel t' (s.mark 10 F.index)∧σ'[fi]?=some (.obj 0 (frC F L false))∧Kp σ σ' (fun k=>k=iv∨k=fi):=
  (QP hD hm 10 F.index).mono fun r σ' ⟨q1,t',q0,q2,q3⟩=>⟨q1,t',q0,q2,q3.2 fi _ h1 hf1,hK.trans (q3.weak fun k hk=>.inl hk)⟩
 refine Qg (fun ε σ'=>((ε 0=.ref iv 0 0∧ε 1=.ref fi 0 0)∧σ'=σ1)∧e.k=12) ?_ ?_
 ·intro N hN
  by_cases k9:e.k=9∨e.k=10
  ·have e0:endF F pc e s=if F.kind≠2 then (false,s.stop 4 4,F,false) else if goE F.stage e.v≠0 then (false,s.stop 4 3,F,false) else (false,s.mark (if e.k=9 then 11 else 12) e.v,{ F with pc:=pc,stage:=e.v },false):=if_pos k9
   rw[e0]
   by_cases hk:F.kind=2
   ·rw[if_neg (by simpa using hk)]
    by_cases hg:goE F.stage e.v≠0
    ·rw[if_pos hg]
     have hg':e.v≤F.stage∨1048575 < e.v:=by
      unfold goE at hg
      split at hg
      ·assumption
      ·exact absurd rfl hg
     rcases k9 with c|c<;>by_cases hv:e.v≤F.stage
     ·push_cast (disch:=omega)[hρ,hB,g0,c,hf1,fr13,hk,g2,fr2,hv]
      refine Q2 (hstop 4 3) ?_
      rintro a σ' ⟨rfl,q1,q2,q3⟩
      push_cast (disch:=omega)[hρ]
      exact ⟨by rfl,t,rfl,q3,q1,q2⟩
     ·have hv2:1048575 < e.v:=by omega
      push_cast (disch:=omega)[hρ,hB,g0,c,hf1,fr13,hk,g2,fr2,hv,hv2]
      refine Q2 (hstop 4 3) ?_
      rintro a σ' ⟨rfl,q1,q2,q3⟩
      push_cast (disch:=omega)[hρ]
      exact ⟨by rfl,t,rfl,q3,q1,q2⟩
     ·push_cast (disch:=omega)[hρ,hB,g0,c,hf1,fr13,hk,g2,fr2,hv]
      refine Q2 (hstop 4 3) ?_
      rintro a σ' ⟨rfl,q1,q2,q3⟩
      push_cast (disch:=omega)[hρ]
      exact ⟨by rfl,t,rfl,q3,q1,q2⟩
     ·have hv2:1048575 < e.v:=by omega
      push_cast (disch:=omega)[hρ,hB,g0,c,hf1,fr13,hk,g2,fr2,hv,hv2]
      refine Q2 (hstop 4 3) ?_
      rintro a σ' ⟨rfl,q1,q2,q3⟩
      push_cast (disch:=omega)[hρ]
      exact ⟨by rfl,t,rfl,q3,q1,q2⟩
    ·rw[if_neg hg]
     have hg':¬e.v≤F.stage∧¬1048575 < e.v:=by
      unfold goE at hg
      split at hg
      ·exact absurd (by decide) hg
      ·omega
     obtain ⟨hv,hv2⟩:=hg'
     have hD2:=fun cs=>hD.setO (r:=.obj 0 cs) hf1 h1 h2
     have go:∀k:Int,∀σ2 σ3:Kx.St,σ2=σ1.set fi (.obj 0 (frC { F with pc:=pc } L false))→σ3=σ2.set fi (.obj 0 (frC { F with pc:=pc,stage:=e.v } L false)) →
       σ2[fi]?=some (.obj 0 (frC { F with pc:=pc } L false))∧σ2[B]?=some (.obj 0 (aEf e))∧σ3[B]?=some (.obj 0 (aEf e)) ∧
       FnG Tryz.prog 47 [.ref iv 0 0,.v (.int .i64 k),.v (.int .i64 e.v)] σ3 fun r σ'=>r=.tup []∧∃t',t'.j=t.j∧DvAt σ' iv m fs fuel t' (s.mark k e.v)∧σ'[fi]?=some (.obj 0 (frC { F with pc:=pc,stage:=e.v } L false))∧Kp σ σ' (fun k=>k=iv∨k=fi):=by
      rintro k σ2 σ3 rfl rfl
      have f2:(σ1.set fi (Res.obj 0 (frC { F with pc:=pc } L false)))[fi]?=some (.obj 0 (frC { F with pc:=pc } L false)):=Q4 hf1
      have b2:(σ1.set fi (Res.obj 0 (frC { F with pc:=pc } L false)))[B]?=some (.obj 0 (aEf e)):=Q0 (Ne.symm nB3) hB
      have hD3:=(hD2 (frC { F with pc:=pc } L false)).setO (r:=.obj 0 (frC { F with pc:=pc,stage:=e.v } L false)) f2 h1 h2
      have f3:=Q4 (o:=Res.obj 0 (frC { F with pc:=pc,stage:=e.v } L false)) f2
      refine ⟨f2,b2,Q0 (Ne.symm nB3) b2,(QP hD3 hm k e.v).mono fun r σ' ⟨q1,t',q0,q2,q3⟩=>⟨q1,t',q0,q2,q3.2 fi _ h1 f3,((hK.trans (Kp.set (.inr rfl) _)).trans (Kp.set (.inr rfl) _)).trans (q3.weak fun k hk=>.inl hk)⟩⟩
     rcases k9 with c|c
     ·obtain ⟨f2,b2,b3,hmk⟩:=go 11 _ _ rfl rfl
      rw[if_pos c]
      push_cast (disch:=omega)[hρ,hB,g0,c,hf1,fr13,hk,g2,fr2,hv,hv2]
      refine Q6 rfl rfl hf1 (by rw[Q25];decide) ?_
      rw[frs1]
      push_cast (disch:=omega)[hρ,b2,g2]
      refine Q6 rfl rfl f2 (by rw[Q25];decide) ?_
      rw[frs2]
      push_cast (disch:=omega)[hρ,b3,g0,g2,c]
      refine Q2 hmk ?_
      rintro a σ' ⟨rfl,t',q0,q1,q2,q3⟩
      rw[hk] at q2
      push_cast (disch:=omega)[hρ]
      exact ⟨by rfl,t',q0,q3,q1,q2⟩
     ·obtain ⟨f2,b2,b3,hmk⟩:=go 12 _ _ rfl rfl
      rw[if_neg (by omega)]
      push_cast (disch:=omega)[hρ,hB,g0,c,hf1,fr13,hk,g2,fr2,hv,hv2]
      refine Q6 rfl rfl hf1 (by rw[Q25];decide) ?_
      rw[frs1]
      push_cast (disch:=omega)[hρ,b2,g2]
      refine Q6 rfl rfl f2 (by rw[Q25];decide) ?_
      rw[frs2]
      push_cast (disch:=omega)[hρ,b3,g0,g2,c]
      refine Q2 hmk ?_
      rintro a σ' ⟨rfl,t',q0,q1,q2,q3⟩
      rw[hk] at q2
      push_cast (disch:=omega)[hρ]
      exact ⟨by rfl,t',q0,q3,q1,q2⟩
   ·rw[if_pos hk]
    rcases k9 with c|c
    ·push_cast (disch:=omega)[hρ,hB,g0,c,hf1,fr13,hk]
     refine Q2 (hstop 4 4) ?_
     rintro a σ' ⟨rfl,q1,q2,q3⟩
     push_cast (disch:=omega)[hρ]
     exact ⟨by rfl,t,rfl,q3,q1,q2⟩
    ·push_cast (disch:=omega)[hρ,hB,g0,c,hf1,fr13,hk]
     refine Q2 (hstop 4 4) ?_
     rintro a σ' ⟨rfl,q1,q2,q3⟩
     push_cast (disch:=omega)[hρ]
     exact ⟨by rfl,t,rfl,q3,q1,q2⟩
  by_cases k11:e.k=11
  ·have e0:endF F pc e s=if F.kind≠2 then (true,s.stop 4 4,F,false) else if F.stage≠0 then (true,s.stop 4 5,F,false) else (true,s.mark 10 F.index,F,true):=by unfold endF;rw[if_neg k9,if_pos k11]
   rw[e0]
   by_cases hk:F.kind=2
   ·rw[if_neg (by simpa using hk)]
    by_cases hz:F.stage=0
    ·rw[if_neg (by simpa using hz)]
     have f2:(σ1.set fi (Res.obj 0 (frC F L true)))[fi]?=some (.obj 0 (frC F L true)):=Q4 hf1
     have hD2:=hD.setO (r:=.obj 0 (frC F L true)) hf1 h1 h2
     have hmk:=QP hD2 hm 10 F.index
     push_cast (disch:=omega)[hρ,hB,g0,k11,hf1,fr13,hk,fr2,hz]
     refine Q6 rfl rfl hf1 (by rw[Q25];decide) ?_
     rw[frs22]
     push_cast (disch:=omega)[hρ,f2,fr3]
     refine Q2 hmk ?_
     rintro a σ' ⟨rfl,t',q0,q1,q3⟩
     push_cast (disch:=omega)[hρ]
     exact ⟨by rfl,t',q0,(hK.trans (Kp.set (.inr rfl) _)).trans (q3.weak fun k hk=>.inl hk),q1,q3.2 fi _ h1 f2⟩
    ·rw[if_pos hz]
     push_cast (disch:=omega)[hρ,hB,g0,k11,hf1,fr13,hk,fr2,hz]
     refine Q2 (hstop 4 5) ?_
     rintro a σ' ⟨rfl,q1,q2,q3⟩
     push_cast (disch:=omega)[hρ]
     exact ⟨by rfl,t,rfl,q3,q1,q2⟩
   ·rw[if_pos hk]
    push_cast (disch:=omega)[hρ,hB,g0,k11,hf1,fr13,hk]
    refine Q2 (hstop 4 4) ?_
    rintro a σ' ⟨rfl,q1,q2,q3⟩
    push_cast (disch:=omega)[hρ]
    exact ⟨by rfl,t,rfl,q3,q1,q2⟩
  have k12:e.k=12:=by omega
  push_cast (disch:=omega)[hρ,hB,g0,k12]
  exact hN _ _ ⟨⟨by push_cast (disch:=omega)[hρ],rfl⟩,k12⟩
 clear hρ ε
 rintro ε σ' ⟨⟨hρ,e1⟩,k12⟩
 rw[e1]
 have e0:endF F pc e s=if F.kind=2 then (true,s.mark 10 F.index,F,false) else (true,s,F,false):=by unfold endF;rw[if_neg (by omega),if_neg (by omega)]
 rw[e0]
 by_cases hk:F.kind=2
 ·rw[if_pos hk]
  push_cast (disch:=omega)[hρ,hf1,fr13,hk,fr3]
  refine Q2 hmark ?_
  rintro a σ' ⟨rfl,t',q0,q1,q2,q3⟩
  push_cast (disch:=omega)[hρ]
  exact ⟨by rfl,t',q0,q3,q1,q2⟩
 ·rw[if_neg hk]
  push_cast (disch:=omega)[hρ,hf1,fr13,hk]
  exact ⟨rfl,t,rfl,hK,hD⟩
end
end Go.Proofs.YtncdnegdlkmicaaGreat.Sr
