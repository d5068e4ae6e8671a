/- The document's evaluator: pipe: the walk; frames and loops together. -/
import Derived.Test.YtncdnegdlkmicaaGreatQEkh
namespace Go.Proofs.YtncdnegdlkmicaaGreat.Sr
set_option linter.unusedVariables false
set_option linter.unusedSimpArgs false
open Go Go.Kx Go.Proofs
theorem begins_8 {s:Sv} {e:Ef} {f:Sf} {r:List Sf} (h:e.k=8) (hl:s.l=f::r):∃u:Sv,s.begins e=u.iterate∧u.l=⟨3,e.v,0,f.regs,false,0,0,IntKind.i64.wrap (s.serial+1)⟩::s.l ∧
  u.e=({ ({ s with serial:=IntKind.i64.wrap (s.serial+1) }:Sv).mark 7 (IntKind.i64.wrap (s.serial+1)) with frames:=IntKind.i64.wrap (s.frames+1),deepest:=max s.deepest ((s.l.length+1:Nat):Int) }:Sv).e∧u.status=s.status:=by
 refine ⟨(({ s with serial:=IntKind.i64.wrap (s.serial+1) }:Sv).mark 7 (IntKind.i64.wrap (s.serial+1))).push ⟨3,e.v,0,s.top.regs,false,0,0,IntKind.i64.wrap (s.serial+1)⟩,?_,?_,rfl,rfl⟩
 ·unfold Sv.begins
  rw[if_neg (by omega),if_neg (by omega),if_pos h]
 ·rw[XY hl];rfl
section
variable {m:Int} {fs:List (List Ix)} {d N:Nat}
def PHead (m:Int) (fs:List (List Ix)) (d N n:Nat) (σ:Kx.St) (iv fi tj:Nat) (T1:Sv) (F:Sf) (K:List Sf) (lp:List Int) (br:Bool) (fn deep ser:Int) (n':Nat) (ε:AEnv) (σ':Kx.St):Prop:=
 ∃(i:Int) (LP:Nat) (t':DvT) (s':Sv),(ε 0=.ref iv 0 0∧ε 1=.ref fi 0 0∧ε 2=.v (.int .i64 fn)∧ε 3=.v (.int .i64 deep)∧ε 8=.v (.int .i64 ser)∧ε 9=.ref LP 0 0∧ε 10=.v (.int .i64 i))∧t'.j=tj ∧
  Kp σ σ' (fun k=>k=iv∨k=fi∨k=tj)∧DvAt σ' iv m fs N t' s'∧((s'.status≠0∧s'.e=(Lx fs n T1).e∧σ'[fi]?=some (.obj 0 (frC F lp br))) ∨
   (s'.status=0∧∃nn k' L q,n'=nn+1∧nn≤n∧Lx fs n T1=Lx fs nn s'.iterate∧Iv fs d k' s'.iterate∧k'+nn=N∧s'.l=q::F::K∧q.kind=3∧q.fn=fn∧q.regs=L∧q.index=i∧q.serial=ser ∧
    σ'[LP]?=some (.obj 0 (aRg L))∧(LP≠iv∧LP≠fi∧LP≠tj∧σ.length≤LP)∧σ'[fi]?=some (.obj 0 (frC F lp br))))
def POut (m:Int) (fs:List (List Ix)) (d N n:Nat) (σ:Kx.St) (iv fi tj:Nat) (T1:Sv) (F:Sf) (K:List Sf) (lp:List Int) (br:Bool) (σ':Kx.St):Prop:=
 ∃t' s',t'.j=tj∧Kp σ σ' (fun k=>k=iv∨k=fi∨k=tj)∧DvAt σ' iv m fs N t' s' ∧
   ((s'.status≠0∧s'.e=(Lx fs n T1).e∧σ'[fi]?=some (.obj 0 (frC F lp br)))∨(s'.status=0∧∃n' k' L,n' < n∧k'+n'=N∧Lx fs n T1=Lx fs n' s'∧Iv fs d k' s'∧s'.l={ F with regs:=L }::K∧σ'[fi]?=some (.obj 0 (frC { F with regs:=L } lp br))))
set_option maxHeartbeats 64000000 in
theorem pipe_step (hNN:N≤100000) {n:Nat} (ihR:∀k,k≤n→SR m fs d N k):SP m fs d N n:=by
 intro σ iv fi t s F K lp br e deep k hD hdeep hf h1 h2 hl hs he hm hI hkn
 refine Qk ZP mixed rfl ?_
 simp only[Q10]
 obtain ⟨u,hu1,hu2,hu3,hu4⟩:=begins_8 he hl
 have hlen:s.l.length≤600000:=by
  have h3:=hI.m.len
  have h4:=hI.m.steps
  rw[hu1,iterate_l hu2] at h3
  simp only[List.length_cons] at h3
  omega
 generalize hser:IntKind.i64.wrap (s.serial+1)=ser at hu2 hu3
 have hfl:=Qm hf
 refine Q1 (fun ε σ'=>(ε 0=.ref iv 0 0∧ε 1=.ref fi 0 0∧ε 2=.v (.int .i64 e.v)∧ε 3=.v (.int .i64 deep))∧DvAt σ' iv m fs N t { s with serial:=ser }∧σ'[fi]?=some (.obj 0 (frC F lp br))∧Kp σ σ' (fun k=>k=iv∨k=fi∨k=t.j)) ?_ ?_
 ·intro N' X R hN
  have ho:=hD.obj
  have d5:(dvC m fs N t s)[5]?=some (.v (.int .i64 s.serial)):=rfl
  have e1:(dvC m fs N t s).set 5 (.v (.int .i64 (IntKind.i64.wrap (s.serial+1))))=dvC m fs N t { s with serial:=ser }:=by rw[hser];rfl
  push_cast (disch:=omega)[ho,d5]
  refine Q6 rfl rfl ho (by simp[dvC]) ?_
  rw[e1]
  push_cast (disch:=omega)
  exact hN _ _ ⟨by push_cast (disch:=omega),hD.upd rfl rfl rfl,Q0 (Ne.symm h1) hf,Kp.set (.inl rfl) _⟩
 clear hD hf
 rintro ε σ1 ⟨hρ,hD,hf,hK⟩
 refine Q1 (fun ε σ'=>(ε 0=.ref iv 0 0∧ε 1=.ref fi 0 0∧ε 2=.v (.int .i64 e.v)∧ε 3=.v (.int .i64 deep)∧ε 8=.v (.int .i64 ser))∧σ'=σ1) ?_ ?_
 ·intro N' X R hN
  have ho:=hD.obj
  have d5:(dvC m fs N t { s with serial:=ser })[5]?=some (.v (.int .i64 ser)):=rfl
  push_cast (disch:=omega)[hρ,ho,d5]
  exact hN _ _ ⟨by push_cast (disch:=omega)[hρ],rfl⟩
 clear hρ ε
 rintro ε σ' ⟨hρ,e1⟩
 rw[e1]
 clear e1 σ'
 refine Q1 (fun ε σ'=>(ε 0=.ref iv 0 0∧ε 1=.ref fi 0 0∧ε 2=.v (.int .i64 e.v)∧ε 3=.v (.int .i64 deep)∧ε 8=.v (.int .i64 ser))∧∃t',t'.j=t.j∧DvAt σ' iv m fs N t' (({ s with serial:=ser }:Sv).mark 7 ser)∧σ'[fi]?=some (.obj 0 (frC F lp br))∧Kp σ σ' (fun k=>k=iv∨k=fi∨k=t.j)) ?_ ?_
 ·intro N' X R hN
  push_cast (disch:=omega)[hρ]
  refine Q2 (QP hD (by show s.marks.length≤_;omega) 7 ser) ?_
  rintro a σ' ⟨rfl,t',q0,q1,q2⟩
  push_cast (disch:=omega)[hρ]
  exact hN _ _ ⟨by push_cast (disch:=omega)[hρ],t',q0,q1,q2.2 fi _ h1 hf,hK.trans (q2.weak fun k hk=>.inl hk)⟩
 clear hρ ε hD hf hK σ1
 rintro ε σ1 ⟨hρ,t',htj,hD,hf,hK⟩
 refine Q1 (fun ε σ'=>(ε 0=.ref iv 0 0∧ε 1=.ref fi 0 0∧ε 2=.v (.int .i64 e.v)∧ε 3=.v (.int .i64 deep)∧ε 8=.v (.int .i64 ser))∧DvAt σ' iv m fs N t' { ({ s with serial:=ser }:Sv).mark 7 ser with frames:=IntKind.i64.wrap (s.frames+1) }∧σ'[fi]?=some (.obj 0 (frC F lp br))∧Kp σ σ' (fun k=>k=iv∨k=fi∨k=t.j)) ?_ ?_
 ·intro N' X R hN
  have ho:=hD.obj
  have d8:(dvC m fs N t' (({ s with serial:=ser }:Sv).mark 7 ser))[8]?=some (.v (.int .i64 s.frames)):=rfl
  have e1:(dvC m fs N t' (({ s with serial:=ser }:Sv).mark 7 ser)).set 8 (.v (.int .i64 (IntKind.i64.wrap (s.frames+1))))=dvC m fs N t' { ({ s with serial:=ser }:Sv).mark 7 ser with frames:=IntKind.i64.wrap (s.frames+1) }:=rfl
  push_cast (disch:=omega)[hρ,ho,d8]
  refine Q6 rfl rfl ho (by simp[dvC]) ?_
  rw[e1]
  push_cast (disch:=omega)[hρ]
  exact hN _ _ ⟨by push_cast (disch:=omega)[hρ],hD.upd rfl rfl rfl,Q0 (Ne.symm h1) hf,hK.trans (Kp.set (.inl rfl) _)⟩
 clear hρ ε hD hf hK σ1
 rintro ε σ1 ⟨hρ,hD,hf,hK⟩
 refine Q1 (fun ε σ'=>(ε 0=.ref iv 0 0∧ε 1=.ref fi 0 0∧ε 2=.v (.int .i64 e.v)∧ε 3=.v (.int .i64 deep)∧ε 8=.v (.int .i64 ser))∧DvAt σ' iv m fs N t' u∧σ'[fi]?=some (.obj 0 (frC F lp br))∧Kp σ σ' (fun k=>k=iv∨k=fi∨k=t.j)) ?_ ?_
 ·intro N' X R hN
  have ho:=hD.obj
  have d9:(dvC m fs N t' { ({ s with serial:=ser }:Sv).mark 7 ser with frames:=IntKind.i64.wrap (s.frames+1) })[9]?=some (.v (.int .i64 s.deepest)):=rfl
  have e1:(dvC m fs N t' { ({ s with serial:=ser }:Sv).mark 7 ser with frames:=IntKind.i64.wrap (s.frames+1) }).set 9 (.v (.int .i64 (max s.deepest deep)))=dvC m fs N t' { ({ s with serial:=ser }:Sv).mark 7 ser with frames:=IntKind.i64.wrap (s.frames+1),deepest:=max s.deepest deep }:=rfl
  have e2:u.e=({ ({ s with serial:=ser }:Sv).mark 7 ser with frames:=IntKind.i64.wrap (s.frames+1),deepest:=max s.deepest deep }:Sv).e:=by rw[hu3,hdeep];rfl
  push_cast (disch:=omega)[hρ,ho,d9]
  refine Q6 rfl rfl ho (by simp[dvC]) ?_
  rw[e1]
  push_cast (disch:=omega)[hρ]
  exact hN _ _ ⟨by push_cast (disch:=omega)[hρ],DvAt.e (hD.upd (s':={ ({ s with serial:=ser }:Sv).mark 7 ser with frames:=IntKind.i64.wrap (s.frames+1),deepest:=max s.deepest deep }) rfl rfl rfl) e2,Q0 (Ne.symm h1) hf,hK.trans (Kp.set (.inl rfl) _)⟩
 clear hρ ε hD hf hK σ1
 rintro ε σ1 ⟨hρ,hD,hf,hK⟩
 have h2':fi≠t'.j:=by rw[htj];exact h2
 refine Q1 (fun ε σ'=>∃LP,(ε 0=.ref iv 0 0∧ε 1=.ref fi 0 0∧ε 2=.v (.int .i64 e.v)∧ε 3=.v (.int .i64 deep)∧ε 8=.v (.int .i64 ser)∧ε 9=.ref LP 0 0)∧DvAt σ' iv m fs N t' u∧σ'[fi]?=some (.obj 0 (frC F lp br))∧σ'[LP]?=some (.obj 0 (aRg F.regs))∧(LP≠iv∧LP≠fi∧LP≠t.j∧σ.length≤LP)∧Kp σ σ' (fun k=>k=iv∨k=fi∨k=t.j)) ?_ ?_
 ·intro N' X R hN
  have fR:=frR F lp br
  have q1:=Qm hD.obj
  have q2:=Qm hD.dat
  have q3:=Qm hf
  have q4:=hK.1
  have hset:setAtA (aRg z8) 0 (aRg F.regs)=aRg F.regs:=rfl
  have e1:(σ1++[Res.obj 0 (aRg z8)]).set σ1.length (Res.obj 0 (aRg F.regs))=σ1++[Res.obj 0 (aRg F.regs)]:=by simp
  push_cast (disch:=omega)[hρ,hf,fR]
  refine Qb ?_
  push_cast (disch:=omega)[hρ]
  refine Q5 (cs:=aRg z8) rfl (Q04 _) (Qn σ1 (Res.obj 0 (aRg z8))) (by decide) ?_
  rw[hset]
  have hgo:∀ε':AEnv,(ε' 0=.ref iv 0 0∧ε' 1=.ref fi 0 0∧ε' 2=.v (.int .i64 e.v)∧ε' 3=.v (.int .i64 deep)∧ε' 8=.v (.int .i64 ser)∧ε' 9=.ref σ1.length 0 0)→act (N' ε' ((σ1++[Res.obj 0 (aRg z8)]).set σ1.length (Res.obj 0 (aRg F.regs)))):=by
   intro ε' q
   rw[e1]
   exact hN _ _ ⟨σ1.length,q,hD.app _,Q7 hf,Qn _ _,⟨by omega,by omega,by rw[←htj];omega,q4⟩,hK.trans (Kp.app _ _ _)⟩
  push_cast (disch:=omega)[hρ]
  first|exact hgo _ (by push_cast (disch:=omega)[hρ])|(rw[e1] at hgo;exact hgo _ (by push_cast (disch:=omega)[hρ]))
 clear hρ ε hD hf hK σ1
 rintro ε σ1 ⟨LP,hρ,hD,hf,hLP,nLP,hK⟩
 refine Q1 (fun ε σ'=>(ε 0=.ref iv 0 0∧ε 1=.ref fi 0 0∧ε 2=.v (.int .i64 e.v)∧ε 3=.v (.int .i64 deep)∧ε 8=.v (.int .i64 ser)∧ε 9=.ref LP 0 0∧ε 10=.v (.int .i64 0))∧σ'=σ1) ?_ ?_
 ·intro N' X R hN
  push_cast (disch:=omega)[hρ]
  exact hN _ _ ⟨by push_cast (disch:=omega)[hρ],rfl⟩
 clear hρ ε
 rintro ε σ' ⟨hρ,e1⟩
 rw[e1]
 clear e1 σ'
 push_cast (disch:=omega)[hρ]
 refine Qv (α:=Nat) (I:=fun n' ε σ'=>PHead m fs d N n σ iv fi t.j (s.begins e) F K lp br e.v deep ser n' ε σ') (μ:=fun n'=>n') (Q:=fun ε σ'=>POut m fs d N n σ iv fi t.j (s.begins e) F K lp br σ') (x:=n+1) ?_ ?_ ?_
 ·refine ⟨0,LP,t',u,by push_cast (disch:=omega)[hρ],htj,hK,hD,.inr ⟨hu4.trans hs,n,k,F.regs,⟨3,e.v,0,F.regs,false,0,0,ser⟩,rfl,Nat.le_refl _,by rw[hu1],by rw[←hu1];exact hI,hkn,by rw[hu2,hl],rfl,rfl,rfl,rfl,rfl,hLP,nLP,hf⟩⟩
 ·clear hρ hD hf hLP hK nLP ε σ1 LP htj h2' t'
  rintro j0 ε σ1 Nx E ⟨i,LP,t',s',hρ,htj,hK,hD,hcase⟩ hN hE
  simp only[QO]
  have ho:=hD.obj
  have d10:(dvC m fs N t' s')[10]?=some (.v (.int .i64 s'.status)):=rfl
  rcases hcase with ⟨hst,hse,hff⟩|⟨hst,n',k',L,q,rfl,hn',hLx,hI',hkn',hsl,hq3,hqf,hqr,hqi,hqs,hLP,⟨l1,l2,l3,l4⟩,hf⟩
  ·push_cast (disch:=omega)[hρ,ho,d10,hst]
   exact hE _ _ ⟨t',s',htj,hK,hD,.inl ⟨hst,hse,hff⟩⟩
  have hit:=iterate_l hsl
  have hie:=iterate_e hsl
  have hmk:s'.marks.length≤1000000:=by
   have a1:=hI'.m.marks
   have a2:s'.iterate.marks=s'.marks++[(9,q.index)]:=by have:=congrArg Sv.marks hie;exact this
   rw[a2,List.length_append] at a1
   omega
  have hll:s'.l.length≤700000:=by
   have a1:=hI'.m.len
   rw[hit] at a1
   simp only[List.length_cons] at a1
   rw[hsl]
   simp only[List.length_cons]
   omega
  have hdl:deep=s'.l.length:=by rw[hdeep,hsl,hl];simp
  have hfr:s'.iterate.frames=IntKind.i64.wrap (s'.frames+1):=by have:=congrArg Sv.frames hie;exact this
  have hdp:s'.iterate.deepest=max s'.deepest (deep+1):=by
   have a1:=congrArg Sv.deepest hie
   have a1:s'.iterate.deepest=max s'.deepest ((s'.l.length+1:Nat):Int):=a1
   rw[a1,hdl]
   rfl
  have hTe:({ s'.iterate with frames:=s'.frames,deepest:=s'.deepest }:Sv).e=(s'.mark 9 q.index).e:=by
   have e1:({ s'.iterate.e with frames:=s'.frames,deepest:=s'.deepest }:Sv)={ (s'.mark 9 q.index).e with frames:=s'.frames,deepest:=s'.deepest }:=by rw[hie];rfl
   exact e1
  have hTs:s'.iterate.status=0:=by rw[X76];exact hst
  have h2':fi≠t'.j:=by rw[htj];exact h2
  have hbl:fillA [AV.v (.int .i64 0),AV.v (.int .i64 0),AV.v (.int .i64 0),AV.v (.int .i64 0),AV.v (.int .i64 0),AV.v (.int .i64 0),AV.v (.int .i64 0),AV.v (.int .i64 0),AV.v (.int .i64 0),AV.v (.int .i64 0),AV.v (.int .i64 0),AV.v (.int .i64 0),AV.v (.bool false),AV.v (.bool false),AV.v (.int .i64 0),AV.v (.int .i64 0),AV.v (.int .i64 0),AV.v (.int .i64 0),AV.v (.int .i64 0),AV.v (.int .i64 0),AV.v (.int .i64 0),AV.v (.int .i64 0),AV.v (.bool false)]
    [(0,1),(4,8),(13,1),(3,1),(14,8)] [.v (.int .i64 e.v),.agg (aRg L),.v (.bool true),.v (.int .i64 i),.agg (aRg L)]=some (frC ⟨2,e.v,0,L,false,i,0,0⟩ L false):=rfl
  have hbc:(AV.agg (frC ⟨2,e.v,0,L,false,i,0,0⟩ L false)).cells=frC ⟨2,e.v,0,L,false,i,0,0⟩ L false:=rfl
  have hdI:IntKind.i64.wrap (deep+1)=deep+1:=Z90 _ (by omega) (by omega)
  rw[hqf,hqr,hqi] at hit
  rw[hqi] at hTe
  refine Q1 (fun ε σ2=>(ε 0=.ref iv 0 0∧ε 1=.ref fi 0 0∧ε 2=.v (.int .i64 e.v)∧ε 3=.v (.int .i64 deep)∧ε 8=.v (.int .i64 ser)∧ε 9=.ref LP 0 0∧ε 10=.v (.int .i64 i))∧σ2=σ1) ?_ ?_
  ·intro N' X R hN'
   push_cast (disch:=omega)[hρ,ho,d10,hst]
   exact hN' _ _ ⟨by push_cast (disch:=omega)[hρ],rfl⟩
  clear hρ ε
  rintro ε σ2 ⟨hρ,e2⟩
  rw[e2]
  clear e2 σ2
  push_cast (disch:=omega)[hρ]
  refine Q2 (QP hD hmk 9 i) ?_
  rintro a σ2 ⟨rfl,t2,p0,p1,p2⟩
  have hLP2:=p2.2 LP _ l1 hLP
  have hf2:=p2.2 fi _ h1 hf
  have hK2:=hK.trans (p2.weak fun k hk=>.inl hk)
  have htj2:t2.j=t.j:=p0.trans htj
  push_cast (disch:=omega)[hρ,hLP2,cells8,hbl]
  refine Qd ?_
  push_cast (disch:=omega)[hρ,hbc,hdI]
  have q1:=Qm p1.obj
  have q2:=Qm p1.dat
  have q3:=Qm hf2
  have q4:=Qm hLP2
  have hrun:=ihR n' hn' (σ2++[Res.obj 0 (frC ⟨2,e.v,0,L,false,i,0,0⟩ L false)]) iv σ2.length t2 s'.iterate ⟨2,e.v,0,L,false,i,0,0⟩ ((⟨q.kind,e.v,q.pc,L,q.dirty,IntKind.i64.wrap (i+1),q.stage,q.serial⟩:Sf)::F::K) L s'.frames s'.deepest (deep+1) k'
   ((p1.app _).e hTe) hfr hdp (by rw[hit,hdl,hsl];simp) (Qn _ _) (by omega) (by omega) (by rw[hit]) hTs hI' hkn' (.inr ⟨rfl,_,_,rfl,hq3,rfl⟩)
  refine Q2 hrun ?_
  rintro a σ3 ⟨rfl,t3,sx,u0,u1,u2,u3⟩
  have htj3:t3.j=t.j:=u0.trans htj2
  have nS:∀{j:Nat},j < σ2.length→j≠iv→j≠t.j→¬(j=iv∨j=σ2.length∨j=t2.j):=by
   rintro j a1 a2 a3 (c|c|c)
   ·exact a2 c
   ·omega
   ·exact a3 (c.trans htj2)
  have hf3:=u1.2 fi _ (nS q3 h1 h2) (Q7 hf2)
  have hLP3:=u1.2 LP _ (nS q4 l1 l3) (Q7 hLP2)
  have hK3:Kp σ σ3 (fun k=>k=iv∨k=fi∨k=t.j):=(hK2.trans (Kp.app _ _ _)).drop u1 (fun j hj=>by
   rcases hj with c|c|c
   ·exact .inl (.inl c)
   ·have:=hK2.1;exact .inr (by omega)
   ·exact .inl (.inr (.inr (c.trans htj2))))
  have hlast:∀(F':Sf) (lp':List Int) (br':Bool),σ3[σ2.length]?=some (.obj 0 (frC F' lp' br'))→∃σ4,σ4=σ3.set LP (.obj 0 (aRg lp'))∧σ4[LP]?=some (.obj 0 (aRg lp'))∧σ4[σ2.length]?=some (.obj 0 (frC F' lp' br'))∧DvAt σ4 iv m fs N t3 sx∧σ4[fi]?=some (.obj 0 (frC F lp br))∧Kp σ σ4 (fun k=>k=iv∨k=fi∨k=t.j):=by
   intro F' lp' br' hx
   refine ⟨_,rfl,Q4 hLP3,Q0 (by omega) hx,u2.setO hLP3 l1 (by rw[htj3];exact l3),Q0 l2 hf3,hK3.drop (Kp.set (S:=fun j=>j=LP) rfl _) (fun j hj=>.inr (by omega))⟩
  have hset:∀lp',setAtA (aRg L) 0 (aRg lp')=aRg lp':=fun _=>rfl
  rcases u3 with ⟨v1,v2,F',lp',v3⟩|⟨F',lp',br',v3,w0,n3,k3,T2,w1,w2,w3,w4,w5⟩
  ·obtain ⟨σ4,e4,x1,x2,x3,x4,x5⟩:=hlast F' lp' false v3
   have fL:=frL F' lp' false
   have f22:=fr22 F' lp' false
   push_cast (disch:=omega)[hρ,v3,fL]
   refine Q5 rfl (Q04 _) hLP3 (by show 0+8≤8;decide) ?_
   rw[hset,←e4]
   push_cast (disch:=omega)[hρ,x2,f22]
   exact hN 0 _ _ ⟨IntKind.i64.wrap (i+1),LP,t3,sx,by push_cast (disch:=omega)[hρ],htj3,x5,x3,.inl ⟨v1,by rw[hLx];exact v2,x4⟩⟩ (by omega)
  ·obtain ⟨σ4,e4,x1,x2,x3,x4,x5⟩:=hlast F' lp' br' v3
   have fL:=frL F' lp' br'
   have f22:=fr22 F' lp' br'
   rcases w5 with ⟨c,_⟩|⟨c,_⟩|⟨_,hbr,q',r',uu,y1,y2,y3,y4,y5,y6⟩|⟨_,hbr,q',p',r',y1,y2,y3,y4⟩
   ·exact absurd (show (2:Int)=1 from c) (by decide)
   ·exact absurd (show (2:Int)=1 from c) (by decide)
   ·subst hbr
    simp only[List.cons.injEq] at y1
    obtain ⟨y1,y1'⟩:=y1
    subst y1
    subst y1'
    push_cast (disch:=omega)[hρ,v3,fL]
    refine Q5 rfl (Q04 _) hLP3 (by show 0+8≤8;decide) ?_
    rw[hset,←e4]
    push_cast (disch:=omega)[hρ,x2,f22]
    exact hN (n3+1) _ _ ⟨IntKind.i64.wrap (i+1),LP,t3,uu,by push_cast (disch:=omega)[hρ],htj3,x5,x3.e y5,.inr ⟨y4,n3,k3,lp',_,rfl,by omega,by rw[hLx,w3,y3],by rw[←y3];exact w4,w2,y6,hq3,rfl,rfl,rfl,hqs,x1,⟨l1,l2,l3,l4⟩,x4⟩⟩ (by omega)
   ·subst hbr
    simp only[List.cons.injEq] at y1
    obtain ⟨y1,y1',y1''⟩:=y1
    subst y1
    subst y1'
    subst y1''
    have hmks:sx.marks.length≤1000000:=by
     have e1:T2.marks=(sx.mark 8 q.serial).marks:=by have:=congrArg Sv.marks y3;exact this
     have e2:=w4.m.marks
     have e3:(sx.mark 8 q.serial).marks.length=sx.marks.length+1:=by simp[Sv.mark]
     rw[e1,e3] at e2
     omega
    push_cast (disch:=omega)[hρ,v3,fL]
    refine Q5 rfl (Q04 _) hLP3 (by show 0+8≤8;decide) ?_
    rw[hset,←e4]
    push_cast (disch:=omega)[hρ,x2,f22]
    refine Q2 (QP x3 hmks 8 ser) ?_
    rintro a σ5 ⟨rfl,t5,z0,z1,z2⟩
    have hLP5:=z2.2 LP _ l1 x1
    have hf5:=z2.2 fi _ h1 x4
    push_cast (disch:=omega)[hρ,hLP5,cells8]
    refine Q5 rfl (Q04 _) hf5 (by rw[Q25];decide) ?_
    rw[frsR]
    push_cast (disch:=omega)[hρ]
    rw[←hqs] at z1
    exact ⟨t5,T2,z0.trans htj3,(x5.trans (z2.weak fun k hk=>.inl hk)).trans (Kp.set (.inr (.inl rfl)) _),(z1.e y3).setO hf5 h1 (by rw[z0.trans htj3];exact h2),.inr ⟨y2,n3,k3,lp',by omega,w2,by rw[hLx,w3],w4,y4,Q4 hf5⟩⟩
 ·rintro ε σ2 hO
  push_cast (disch:=omega)
  exact hO
theorem sboth (hF:Fns fs) (hNN:N≤100000) (hd:d≤1000000) (n:Nat):SR m fs d N n∧SP m fs d N n:=by
 induction n using Nat.strongRecOn with
 | ind n ih=>
  have h:=run_step hF hNN hd (fun k hk=>(ih k hk).1) (fun k hk=>(ih k hk).2)
  exact ⟨h,pipe_step hNN fun k hk=>by rcases Nat.lt_or_eq_of_le hk with c|c;exact (ih k c).1;rw[c];exact h⟩
end
end Go.Proofs.YtncdnegdlkmicaaGreat.Sr
