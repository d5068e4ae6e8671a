/- The document's evaluator: run: the walk. -/
import Derived.Test.YtncdnegdlkmicaaGreatQEkg
namespace Go.Proofs.YtncdnegdlkmicaaGreat.Sr
set_option linter.unusedVariables false
set_option linter.unusedSimpArgs false
open Go Go.Kx Go.Proofs
section
variable {m:Int} {fs:List (List Ix)} {d N:Nat}
set_option maxHeartbeats 32000000 in
theorem run_step (hF:Fns fs) (hNN:N≤100000) (hd:d≤1000000) {n:Nat} (ihR:∀k,k < n→SR m fs d N k) (ihP:∀k,k < n→SP m fs d N k):SR m fs d N n:=by
 intro σ iv fi t s F K lp f0 d0 deep k hD hfr hdp hdeep hf h1 h2 hl hs hI hkn hKR
 refine Z11 ZR mixed rfl ?_
 simp only[Q12]
 refine Q1 (fun ε σ'=>(ε 0=.ref iv 0 0∧ε 1=.ref fi 0 0∧ε 2=.v (.int .i64 deep))∧DvAt σ' iv m fs N t { s with deepest:=d0 }∧σ'[fi]?=some (.obj 0 (frC F lp false))∧Kp σ σ' (fun k=>k=iv∨k=fi∨k=t.j)) ?_ ?_
 ·intro N' X R hN
  have ho:=hD.obj
  have d8:(dvC m fs N t { s with frames:=f0,deepest:=d0 })[8]?=some (.v (.int .i64 f0)):=rfl
  have e1:(dvC m fs N t { s with frames:=f0,deepest:=d0 }).set 8 (.v (.int .i64 (IntKind.i64.wrap (f0+1))))=dvC m fs N t { s with deepest:=d0 }:=by rw[←hfr];rfl
  push_cast (disch:=omega)[ho,d8]
  refine Q6 rfl rfl ho (by simp[dvC]) ?_
  rw[e1]
  push_cast (disch:=omega)
  exact hN _ _ ⟨by push_cast (disch:=omega),hD.upd rfl rfl rfl,Q0 (Ne.symm h1) hf,Kp.set (.inl rfl) _⟩
 clear hD hf
 rintro ε σ1 ⟨hρ,hD,hf,hK⟩
 refine Q1 (fun ε σ'=>(ε 0=.ref iv 0 0∧ε 1=.ref fi 0 0∧ε 2=.v (.int .i64 deep))∧DvAt σ' iv m fs N t s∧σ'[fi]?=some (.obj 0 (frC F lp false))∧Kp σ σ' (fun k=>k=iv∨k=fi∨k=t.j)) ?_ ?_
 ·intro N' X R hN
  have ho:=hD.obj
  have d9:(dvC m fs N t { s with deepest:=d0 })[9]?=some (.v (.int .i64 d0)):=rfl
  have e1:(dvC m fs N t { s with deepest:=d0 }).set 9 (.v (.int .i64 (max d0 deep)))=dvC m fs N t s:=by rw[←hdp];rfl
  push_cast (disch:=omega)[hρ,ho,d9]
  refine Q6 rfl rfl ho (by simp[dvC]) ?_
  rw[e1]
  push_cast (disch:=omega)[hρ]
  exact hN _ _ ⟨by push_cast (disch:=omega)[hρ],hD.upd rfl rfl rfl,Q0 (Ne.symm h1) hf,hK.trans (Kp.set (.inl rfl) _)⟩
 clear hρ ε hD hf hK σ1
 rintro ε σ1 ⟨hρ,hD,hf,hK⟩
 push_cast (disch:=omega)[hρ]
 refine Qv (α:=Nat) (I:=fun n' ε σ'=>Head m fs d N n σ iv fi t.j s F K deep n' ε σ') (μ:=fun n'=>n') (Q:=fun ε σ'=>Out m fs d N n σ iv fi t.j s F K σ') (x:=n) ?_ ?_ ?_
 ·exact ⟨by push_cast (disch:=omega)[hρ],t,s,rfl,hK,hD,.inr ⟨hs,k,F,K,lp,Nat.le_refl _,rfl,hI,hkn,hl,hf,rfl,hKR⟩⟩
 ·clear hρ hD hf hK ε σ1
  rintro n' ε σ' Nx E ⟨hρ,t',s',htj,hK,hD,hcase⟩ hN hE
  have ho:=hD.obj
  have d10:(dvC m fs N t' s')[10]?=some (.v (.int .i64 s'.status)):=rfl
  rcases hcase with ⟨hst,he,hef⟩|⟨hst,k',F',K',lp',hn',hLx,hI',hkn',hl',hf',hkind,hKR'⟩
  ·simp only[Q9]
   push_cast (disch:=omega)[hρ,ho,d10,hst]
   exact hE _ _ ⟨t',s',htj,hK,hD,.inl ⟨hst,he,hef⟩⟩
  have hlm:=hI'.m
  have hsteps:=hlm.steps
  have hmk:=hlm.marks
  have hou:=hlm.out
  have hln:=hlm.len
  have hdat:=hlm.data
  obtain ⟨l,hfl,hfn0,hpc0,hpc1⟩:=(hI'.w.ok F' (by rw[hl'];simp)).at_
  have hr8:=(hI'.w.ok F' (by rw[hl'];simp)).regs
  have hR64:=hI'.q.r F' (by rw[hl'];simp)
  have hfnl:=Qm hfl
  have hpcN:F'.pc.toNat < l.length:=by omega
  obtain ⟨x,hx⟩:=Ql hpcN
  have hmem:=List.mem_of_getElem? hfl
  obtain ⟨hdo1,hdo2,hdo3⟩:=do_ok hF hmem hpc0 hx hr8
  have hst2:=hI'.w.st
  have hst1:F'.kind=1∨(F'.kind=2∧∃q p r',K'=q::p::r'):=by
   rw[hl'] at hst2
   rcases hst2.kind with c|c
   ·exact .inl c
   ·obtain ⟨q,r',rfl,_,hst'⟩:=hst2.loop c
    obtain ⟨p,r2,rfl⟩:=hst'.ne
    exact .inr ⟨c,q,p,r2,rfl⟩
  have hdeep':deep=s'.l.length:=by
   rw[hdeep,hl',hl]
   have:=hKR'.len
   simp only[List.length_cons]
   omega
  have hdoS:doS fs s'=doF x F'.pc F'.regs:=by
   unfold doS
   rw[XY hl']
   have e1:fs.getD F'.fn.toNat []=l:=by rw[List.getD_eq_getElem?_getD,hfl];rfl
   have e2:insAt fs F'=x:=by
    unfold insAt
    rw[e1,List.getD_eq_getElem?_getD,hx]
    rfl
   rw[e2]
  cases n' with
  | zero=>
   have heq:s'.steps=(N:Int):=by omega
   have d7:(dvC m fs N t' s')[7]?=some (.v (.int .i64 s'.steps)):=rfl
   have d6:(dvC m fs N t' s')[6]?=some (.v (.int .i64 (N:Int))):=rfl
   rw[heq] at d7
   simp only[Q9]
   push_cast (disch:=omega)[hρ,ho,d10,hst,d7,d6]
   refine Q2 (Z39 hD hst 6 0) ?_
   rintro a σ2 ⟨rfl,q1,q2⟩
   push_cast (disch:=omega)[hρ]
   exact ⟨t',s'.stop 6 0,htj,hK.trans (q2.weak fun k hk=>.inl hk),q1,.inl ⟨by show (6:Int)≠0;decide,by rw[hLx,Lx_zero hst],_,_,q2.2 fi _ h1 hf'⟩⟩
  | succ n2=>
   have hone:=hI'.one hF (by omega)
   have hLx2:Lx fs n s=Lx fs n2 (oneS fs s'):=by rw[hLx,Lx_succ n2 hst]
   have hne:¬s'.steps=(N:Int):=by omega
   have hw:IntKind.i64.wrap (s'.steps+1)=s'.steps+1:=Z90 _ (by omega) (by omega)
   have hn1:(nxS s').l=F'::K':=hl'
   obtain ⟨hml,hme⟩:=meet_f (s:=nxS s') (e:=(doF x F'.pc F'.regs).2.2.1) hn1
   have h12:(doF x F'.pc F'.regs).2.2.1.k≤12∧0≤(doF x F'.pc F'.regs).2.2.1.k:=by
    by_cases c:(doF x F'.pc F'.regs).2.2.2=0
    ·rw[doF_e x F'.pc F'.regs c]
     obtain ⟨a,b⟩:=ofE_kinds x F'.regs
     exact ⟨b,a⟩
    ·have:(doF x F'.pc F'.regs).2.2.1=ef0:=by
      unfold doF at c ⊢
      split at c
      ·exact absurd rfl c
      rename_i c1
      split at c
      ·exact absurd rfl c
      rename_i c2
      split at c
      ·rename_i c3
       split at c
       ·rename_i c4
        rw[if_neg c1,if_neg c2,if_pos c3,if_pos c4]
       ·exact absurd rfl c
      rename_i c3
      split at c
      ·exact absurd rfl c
      split at c
      ·exact absurd rfl c
      ·exact absurd rfl c
     rw[this]
     exact ⟨by decide,by decide⟩
   have hone2:oneS fs s'=((nxS s').meet (doF x F'.pc F'.regs).2.2.1).act (doF x F'.pc F'.regs):=by rw[one_eq,hdoS]
   have hmeet:((nxS s').meet (doF x F'.pc F'.regs).2.2.1).status=0∧((nxS s').meet (doF x F'.pc F'.regs).2.2.1).marks.length≤s'.marks.length+1∧((nxS s').meet (doF x F'.pc F'.regs).2.2.1).out=s'.out∧((nxS s').meet (doF x F'.pc F'.regs).2.2.1).data=s'.data:=by
    have a1:=congrArg Sv.status hme
    have a2:=congrArg Sv.marks hme
    have a3:=congrArg Sv.out hme
    have a4:=congrArg Sv.data hme
    have a1:((nxS s').meet (doF x F'.pc F'.regs).2.2.1).status=(if (endsE (doF x F'.pc F'.regs).2.2.1&&F'.dirty)=true then (nxS s').mark 6 0 else nxS s').status:=a1
    have a2:((nxS s').meet (doF x F'.pc F'.regs).2.2.1).marks=(if (endsE (doF x F'.pc F'.regs).2.2.1&&F'.dirty)=true then (nxS s').mark 6 0 else nxS s').marks:=a2
    have a3:((nxS s').meet (doF x F'.pc F'.regs).2.2.1).out=(if (endsE (doF x F'.pc F'.regs).2.2.1&&F'.dirty)=true then (nxS s').mark 6 0 else nxS s').out:=a3
    have a4:((nxS s').meet (doF x F'.pc F'.regs).2.2.1).data=(if (endsE (doF x F'.pc F'.regs).2.2.1&&F'.dirty)=true then (nxS s').mark 6 0 else nxS s').data:=a4
    split at a1
    ·rename_i c
     rw[if_pos c] at a2 a3 a4
     exact ⟨a1.trans hst,by rw[a2];simp[Sv.mark,nxS],a3,a4⟩
    ·rename_i c
     rw[if_neg c] at a2 a3 a4
     exact ⟨a1.trans hst,by rw[a2];simp[nxS],a3,a4⟩
   obtain ⟨hms,hmm,hmo,hmd⟩:=hmeet
   have hregs:(doF x F'.pc F'.regs).2.2.2=0→5≤(doF x F'.pc F'.regs).2.2.1.k→(doF x F'.pc F'.regs).2.1=F'.regs:=fun a b=>doF_regs x F'.pc F'.regs a b
   rw[hone2] at hone hLx2
   have d7:(dvC m fs N t' s')[7]?=some (.v (.int .i64 s'.steps)):=rfl
   have d6:(dvC m fs N t' s')[6]?=some (.v (.int .i64 (N:Int))):=rfl
   have e7:(dvC m fs N t' s').set 7 (.v (.int .i64 (s'.steps+1)))=dvC m fs N t' (nxS s'):=by unfold nxS;rw[hw];rfl
   simp only[Q9]
   refine Q1 (fun ε σ2=>(ε 0=.ref iv 0 0∧ε 1=.ref fi 0 0∧ε 2=.v (.int .i64 deep))∧σ2=σ') ?_ ?_
   ·intro N' X R hN'
    push_cast (disch:=omega)[hρ,ho,d10,hst]
    exact hN' _ _ ⟨by push_cast (disch:=omega)[hρ],rfl⟩
   clear hρ ε
   rintro ε σ2 ⟨hρ,e2⟩
   rw[e2]
   clear e2 σ2
   refine QM fun X' _=>?_
   refine Q1 (fun ε σ2=>(ε 0=.ref iv 0 0∧ε 1=.ref fi 0 0∧ε 2=.v (.int .i64 deep))∧σ2=σ') ?_ ?_
   ·intro N' X R hN'
    push_cast (disch:=omega)[hρ,ho,d7,d6,hne]
    exact hN' _ _ ⟨by push_cast (disch:=omega)[hρ],rfl⟩
   clear hρ ε
   rintro ε σ2 ⟨hρ,e2⟩
   rw[e2]
   clear e2 σ2
   refine Q1 (fun ε σ2=>(ε 0=.ref iv 0 0∧ε 1=.ref fi 0 0∧ε 2=.v (.int .i64 deep))∧DvAt σ2 iv m fs N t' (nxS s')∧σ2[fi]?=some (.obj 0 (frC F' lp' false))∧Kp σ σ2 (fun k=>k=iv∨k=fi∨k=t.j)) ?_ ?_
   ·intro N' X R hN'
    push_cast (disch:=omega)[hρ,ho,d7]
    refine Q6 rfl rfl ho (by simp[dvC]) ?_
    rw[e7]
    push_cast (disch:=omega)[hρ]
    exact hN' _ _ ⟨by push_cast (disch:=omega)[hρ],hD.upd rfl rfl rfl,Q0 (Ne.symm h1) hf',hK.trans (Kp.set (.inl rfl) _)⟩
   clear hρ ε hD ho hf' hK
   rintro ε σ2 ⟨hρ,hD,hf',hK⟩
   refine Qg (fun ε σ3=>Mid σ iv fi m fs N t.j deep (doF x F'.pc F'.regs) lp' (nxS s') F' ε σ3) ?_ ?_
   ·intro N' hN'
    exact round_do (K:=K') htj hρ hD hf' h1 h2 hK hfl ⟨hfn0,by omega⟩ ⟨hpc0,hpc1⟩ hx hr8 hR64 hN' rfl _ _
   clear hρ ε hD hf' hK σ2
   rintro ε σ2 hM
   refine Qg (fun ε σ3=>Mid σ iv fi m fs N t.j deep (doF x F'.pc F'.regs) lp' ((nxS s').meet (doF x F'.pc F'.regs).2.2.1) { F' with dirty:=F'.dirty&&!endsE (doF x F'.pc F'.regs).2.2.1 } ε σ3) ?_ ?_
   ·intro N' hN'
    exact round_meet hM h1 h2 (by show s'.marks.length≤_;omega) h12.1 hn1 hN' rfl _ _
   clear hM ε σ2
   rintro ε σ2 hM
   refine Qg (fun ε σ3=>(doF x F'.pc F'.regs).2.2.2=0∧Mid σ iv fi m fs N t.j deep (doF x F'.pc F'.regs) lp' ((nxS s').meet (doF x F'.pc F'.regs).2.2.1) { F' with dirty:=F'.dirty&&!endsE (doF x F'.pc F'.regs).2.2.1 } ε σ3) ?_ ?_
   ·intro N' hN'
    refine round_fault hM hms (fun c ε' σ' h=>hN' ε' σ' ⟨c,h⟩) _ ?_ h1 rfl
    intro c ε' σ3 t3 q1 q2 q3 q4
    have ea:((nxS s').meet (doF x F'.pc F'.regs).2.2.1).act (doF x F'.pc F'.regs)=((nxS s').meet (doF x F'.pc F'.regs).2.2.1).stop 4 (doF x F'.pc F'.regs).2.2.2:=act_fault _ c
    push_cast (disch:=omega)
    refine ⟨t3,_,q1,q3,q2,.inl ⟨by show (4:Int)≠0;decide,?_,_,_,q4⟩⟩
    rw[hLx2,ea,X58 n2 (by show (4:Int)≠0;decide)]
   clear hM ε σ2
   rintro ε σ2 ⟨hr0,hM⟩
   refine round_sw (n:=n) (n2:=n2) (k1:=k'+1) (s0:=s) (F:=F) (K:=K) (K':=K') hM h1 h2 hms hr0 (hregs hr0) h12.2 h12.1 hdo1 hml hkind hKR' ?_ ?_ hst1 (by omega) (by rw[hmo];omega) (by rw[hmd];omega) hone (by omega) hNN (by omega) hLx2 (ihR n2 (by omega)) (ihP n2 (by omega)) ?_ ?_ _ rfl
   ·rw[hml,hdeep',hl'];rfl
   ·rw[hml,←show s'.l.length=(_::K').length by rw[hl'];rfl];omega
   ·intro n3 ε' σ3 hn3 hH
    exact hN n3 ε' σ3 hH (by omega)
   ·intro ε' σ3 hO
    push_cast (disch:=omega)
    exact hO
 ·rintro ε σ2 hO
  push_cast (disch:=omega)
  exact hO
end
end Go.Proofs.YtncdnegdlkmicaaGreat.Sr
