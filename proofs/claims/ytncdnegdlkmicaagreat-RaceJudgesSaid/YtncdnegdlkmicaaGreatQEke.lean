/- The document's evaluator: run: the walk of one round. -/
import Derived.Test.YtncdnegdlkmicaaGreatQEkd
namespace Go.Proofs.YtncdnegdlkmicaaGreat.Sr
set_option linter.unusedVariables false
set_option linter.unusedSimpArgs false
open Go Go.Kx Go.Proofs
theorem X01 (e:Ef):(aEf e).all AV.one=true:=rfl
theorem DvAt.set2 {σ:Kx.St} {iv fi A B:Nat} {m:Int} {fs:List (List Ix)} {fuel:Int} {t:DvT} {s:Sv} {x y cf:List AV} {ca cb:List AV} (h:DvAt σ iv m fs fuel t s) (hf:σ[fi]?=some (.obj 0 cf)) (hA:σ[A]?=some (.obj 0 ca)) (hB:σ[B]?=some (.obj 0 cb)) (hAB:A≠B)
  (a1:A≠iv) (a2:A≠t.j) (a3:A≠fi) (b1:B≠iv) (b2:B≠t.j) (b3:B≠fi):
  DvAt ((σ.set A (.obj 0 x)).set B (.obj 0 y)) iv m fs fuel t s∧((σ.set A (.obj 0 x)).set B (.obj 0 y))[fi]?=some (.obj 0 cf)∧((σ.set A (.obj 0 x)).set B (.obj 0 y))[A]?=some (.obj 0 x)∧((σ.set A (.obj 0 x)).set B (.obj 0 y))[B]?=some (.obj 0 y):=by
 have hB1:(σ.set A (.obj 0 x))[B]?=some (.obj 0 cb):=Q0 hAB hB
 exact ⟨(h.setO hA a1 a2).setO hB1 b1 b2,Q0 b3 (Q0 a3 hf),Q0 (Ne.symm hAB) (Q4 hA),Q4 hB1⟩
def Mid (σ:Kx.St) (iv fi:Nat) (m:Int) (fs:List (List Ix)) (N:Nat) (tj:Nat) (deep:Int) (r:Int×List Int×Ef×Int) (lp:List Int) (s1:Sv) (F1:Sf) (ε:AEnv) (σ':Kx.St):Prop:=
 ∃A B t',t'.j=tj∧(ε 0=.ref iv 0 0∧ε 1=.ref fi 0 0∧ε 2=.v (.int .i64 deep)∧ε 6=.v (.int .i64 r.1)∧ε 7=.ref A 0 0∧ε 8=.ref B 0 0∧ε 9=.v (.int .i64 r.2.2.2))∧DvAt σ' iv m fs N t' s1∧σ'[fi]?=some (.obj 0 (frC F1 lp false)) ∧
  σ'[A]?=some (.obj 0 (aRg r.2.1))∧σ'[B]?=some (.obj 0 (aEf r.2.2.1))∧(A≠iv∧A≠tj∧A≠fi∧B≠iv∧B≠tj∧B≠fi)∧Kp σ σ' (fun k=>k=iv∨k=fi∨k=tj)
section
variable {m:Int} {fs:List (List Ix)} {d N:Nat}
def Head (m:Int) (fs:List (List Ix)) (d N n:Nat) (σ:Kx.St) (iv fi tj:Nat) (s:Sv) (F:Sf) (K:List Sf) (deep:Int) (n':Nat) (ε:AEnv) (σ':Kx.St):Prop:=
 (ε 0=.ref iv 0 0∧ε 1=.ref fi 0 0∧ε 2=.v (.int .i64 deep))∧∃t' s',t'.j=tj∧Kp σ σ' (fun k=>k=iv∨k=fi∨k=tj)∧DvAt σ' iv m fs N t' s' ∧
  ((s'.status≠0∧s'.e=(Lx fs n s).e∧∃F' lp',σ'[fi]?=some (.obj 0 (frC F' lp' false)))∨(s'.status=0∧∃k' F' K' lp',n'≤n∧Lx fs n s=Lx fs n' s'∧Iv fs d k' s'∧k'+n'=N∧s'.l=F'::K'∧σ'[fi]?=some (.obj 0 (frC F' lp' false))∧F'.kind=F.kind∧KR F K K' lp'))
def Out (m:Int) (fs:List (List Ix)) (d N n:Nat) (σ:Kx.St) (iv fi tj:Nat) (s:Sv) (F:Sf) (K:List Sf) (σ':Kx.St):Prop:=
 ∃t' s',t'.j=tj∧Kp σ σ' (fun k=>k=iv∨k=fi∨k=tj)∧DvAt σ' iv m fs N t' s' ∧
  ((s'.status≠0∧s'.e=(Lx fs n s).e∧∃F' lp',σ'[fi]?=some (.obj 0 (frC F' lp' false)))∨∃F' lp' br,σ'[fi]?=some (.obj 0 (frC F' lp' br))∧Ended fs d N n s F K s' lp' br)
set_option maxHeartbeats 32000000 in
theorem round_do {σ σ2:Kx.St} {iv fi:Nat} {t:DvT} {tj:Nat} {s:Sv} {F:Sf} {K:List Sf} {lp:List Int} {deep:Int} {l:List Ix} {x:Ix} {ε:AEnv} {Nx:AEnv→Kx.St→Prop}
  (htj:t.j=tj) (hρ:ε 0=.ref iv 0 0∧ε 1=.ref fi 0 0∧ε 2=.v (.int .i64 deep)) (hD:DvAt σ2 iv m fs N t s) (hf:σ2[fi]?=some (.obj 0 (frC F lp false))) (h1:fi≠iv) (h2:fi≠tj)
  (hK:Kp σ σ2 (fun k=>k=iv∨k=fi∨k=tj)) (hfl:fs[F.fn.toNat]?=some l) (hfn:0≤F.fn∧F.fn < fs.length) (hpc:0≤F.pc∧F.pc < l.length) (hx:l[F.pc.toNat]?=some x) (hr:F.regs.length=8) (h64:R64 F.regs)
  (hN:∀ε' σ',Mid σ iv fi m fs N tj deep (doF x F.pc F.regs) lp s F ε' σ'→act (Nx ε' σ')) {A3:SCode} (hA3:A3=(match Q9 with|.seq _ (.block _ (.seq _ (.seq _ (.seq a _))))=>a|_=>.skip)) (X:Nat→AEnv→Kx.St→Prop) (R:AEnv→Kx.St→Prop):
  act (wpA Tryz.prog A3 Nx X R ε σ2):=by
 subst hA3
 simp only[Q9]
 have ho:=hD.obj
 have d1:(dvC m fs N t s)[1]?=some (.sl fs.length (fs.map aIxs) t.p):=rfl
 have f0:=fr0 F lp false
 have f1:=fr1 F lp false
 have fR:=frR F lp false
 have hIL:aIxs l=.sl l.length (l.flatMap aIx) .none:=rfl
 obtain ⟨fnN,hfnN⟩:∃k:Nat,F.fn=k:=⟨F.fn.toNat,by omega⟩
 obtain ⟨pcN,hpcN⟩:∃k:Nat,F.pc=k:=⟨F.pc.toNat,by omega⟩
 rw[hfnN] at f0 hfl hfn
 have f1':=f1
 rw[hpcN] at f1' hx
 have hpc':(pcN:Int) < l.length:=by omega
 have hfn':(fnN:Int) < fs.length:=hfn.2
 simp only[Int.toNat_natCast] at hfl hx
 have hd:=Qp Z93 hx
 have hDo:=ref08_Do_a x F.pc F.regs hr h64
 rw[hpcN] at hDo hN
 have g1:=Qm hD.obj
 have g2:=Qm hD.dat
 have g3:=Qm hf
 generalize doF x (pcN:Int) F.regs=p at hDo hN
 obtain ⟨p1,p2,p3,p4⟩:=p
 have set5':∀e:Ef,setAtA (aEf ef0) 0 (aEf e)=aEf e:=fun e=>rfl
 have hset8:∀r:List Int,setAtA [AV.v (.int .i64 0),AV.v (.int .i64 0),AV.v (.int .i64 0),AV.v (.int .i64 0),AV.v (.int .i64 0),AV.v (.int .i64 0),AV.v (.int .i64 0),AV.v (.int .i64 0)] 0 (aRg r)=aRg r:=fun r=>rfl
 have hset5:∀e:Ef,setAtA [AV.v (.int .i64 0),AV.v (.int .i64 0),AV.v (.int .i64 0),AV.v (.int .i64 0),AV.v (.int .i64 0)] 0 (aEf e)=aEf e:=fun e=>rfl
 have fin:∀(S:Kx.St) (A B:Nat) (ca cb:List AV) (ε':AEnv),DvAt S iv m fs N t s→S[fi]?=some (.obj 0 (frC F lp false))→S[A]?=some (.obj 0 ca)→S[B]?=some (.obj 0 cb)→A≠B→σ2.length≤A→σ2.length≤B→Kp σ S (fun k=>k=iv∨k=fi∨k=tj) →
   (ε' 0=.ref iv 0 0∧ε' 1=.ref fi 0 0∧ε' 2=.v (.int .i64 deep)∧ε' 6=.v (.int .i64 p1)∧ε' 7=.ref A 0 0∧ε' 8=.ref B 0 0∧ε' 9=.v (.int .i64 p4))→act (Nx ε' ((S.set A (.obj 0 (aRg p2))).set B (.obj 0 (aEf p3)))):=by
  intro S A B ca cb ε' q1 q2 q3 q4 q5 q6 q7 q8 q9
  have hl:=hK.1
  have n1:A≠iv:=by omega
  have n2:A≠t.j:=by omega
  have n3:A≠fi:=by omega
  have n4:B≠iv:=by omega
  have n5:B≠t.j:=by omega
  have n6:B≠fi:=by omega
  obtain ⟨r1,r2,r3,r4⟩:=q1.set2 (x:=aRg p2) (y:=aEf p3) q2 q3 q4 q5 n1 n2 n3 n4 n5 n6
  refine hN _ _ ⟨A,B,t,htj,q9,r1,r2,r3,r4,⟨n1,htj ▸ n2,n3,n4,htj ▸ n5,n6⟩,?_⟩
  have k1:=q8.drop (Kp.set (σ:=S) (S:=fun j=>j=A) rfl (.obj 0 (aRg p2))) (fun j hj=>.inr (by omega))
  exact k1.drop (Kp.set (S:=fun j=>j=B) rfl (.obj 0 (aEf p3))) (fun j hj=>.inr (by omega))
 have fin78:∀ε':AEnv,(ε' 0=.ref iv 0 0∧ε' 1=.ref fi 0 0∧ε' 2=.v (.int .i64 deep)∧ε' 6=.v (.int .i64 p1)∧ε' 7=.ref σ2.length 0 0∧ε' 8=.ref (σ2++[Res.obj 0 (aRg z8)]).length 0 0∧ε' 9=.v (.int .i64 p4)) →
   act (Nx ε' (((σ2++[Res.obj 0 (aRg z8)]++[Res.obj 0 (aEf ef0)]).set σ2.length (.obj 0 (aRg p2))).set (σ2++[Res.obj 0 (aRg z8)]).length (.obj 0 (aEf p3)))):=fun ε' h=>
  fin _ _ _ _ _ ε' ((hD.app _).app _) (Q7 (Q7 hf)) (Q7 (Qn _ _)) (Qn _ _) (by simp) (Nat.le_refl _) (by simp) ((hK.trans (Kp.app _ _ _)).trans (Kp.app _ _ _)) h
 have fin87:∀ε':AEnv,(ε' 0=.ref iv 0 0∧ε' 1=.ref fi 0 0∧ε' 2=.v (.int .i64 deep)∧ε' 6=.v (.int .i64 p1)∧ε' 7=.ref (σ2++[Res.obj 0 (aEf ef0)]).length 0 0∧ε' 8=.ref σ2.length 0 0∧ε' 9=.v (.int .i64 p4)) →
   act (Nx ε' ((σ2++[Res.obj 0 (aEf ef0)]++[Res.obj 0 (aRg p2)]).set σ2.length (.obj 0 (aEf p3)))):=fun ε' h=>by
  have e87:(σ2++[Res.obj 0 (aEf ef0)]++[Res.obj 0 (aRg z8)]).set (σ2++[Res.obj 0 (aEf ef0)]).length (.obj 0 (aRg p2))=σ2++[Res.obj 0 (aEf ef0)]++[Res.obj 0 (aRg p2)]:=by simp
  rw[←e87]
  exact fin _ _ _ _ _ ε' ((hD.app _).app _) (Q7 (Q7 hf)) (Qn _ _) (Q7 (Qn _ _)) (by simp) (by simp) (Nat.le_refl _) ((hK.trans (Kp.app _ _ _)).trans (Kp.app _ _ _)) h
 have i7:(σ2++[Res.obj 0 (aRg z8)]++[Res.obj 0 (aEf ef0)])[σ2.length]?=some (.obj 0 (aRg z8)):=Q7 (Qn _ _)
 have i8:((σ2++[Res.obj 0 (aRg z8)]++[Res.obj 0 (aEf ef0)]).set σ2.length (.obj 0 (aRg p2)))[(σ2++[Res.obj 0 (aRg z8)]).length]?=some (.obj 0 (aEf ef0)):=Q0 (by simp) (Qn _ _)
 have j7:(σ2++[Res.obj 0 (aEf ef0)]++[Res.obj 0 (aRg z8)])[(σ2++[Res.obj 0 (aEf ef0)]).length]?=some (.obj 0 (aRg z8)):=Qn _ _
 have j8:(σ2++[Res.obj 0 (aEf ef0)]++[Res.obj 0 (aRg p2)])[σ2.length]?=some (.obj 0 (aEf ef0)):=Q7 (Qn _ _)
 push_cast (disch:=omega)[hρ,ho,d1,hf,f0,hfn',hfl,hIL,f1',hpc',hd,cellsIx,fR]
 refine ⟨?_,?_,?_⟩
 ·refine Q3 hDo ?_
  rintro a rfl
  push_cast (disch:=omega)[hρ,aDo,aInt]
  refine ⟨?_,?_⟩
  ·refine Qb ?_
   push_cast (disch:=omega)[hρ]
   refine Qb ?_
   push_cast (disch:=omega)[hρ]
   refine Q5 (cs:=aRg z8) rfl (Q04 _) i7 (by decide) ?_
   rw[set8]
   push_cast (disch:=omega)[hρ]
   refine Q5 (cs:=aEf ef0) rfl (X01 _) i8 (by decide) ?_
   rw[set5']
   push_cast (disch:=omega)[hρ]
   exact fin78 _ (by push_cast (disch:=omega)[hρ];try rfl)
  ·refine Qb ?_
   push_cast (disch:=omega)[hρ]
   refine Qb ?_
   push_cast (disch:=omega)[hρ]
   refine Q5 (cs:=aRg z8) rfl (Q04 _) j7 (by decide) ?_
   rw[set8]
   push_cast (disch:=omega)[hρ]
   refine Q5 (cs:=aEf ef0) rfl (X01 _) j8 (by decide) ?_
   rw[set5']
   push_cast (disch:=omega)[hρ]
   exact fin87 _ (by push_cast (disch:=omega)[hρ];try rfl)
 ·refine Qb ?_
  push_cast (disch:=omega)[hρ]
  refine ⟨?_,?_⟩
  ·refine Q3 hDo ?_
   rintro a rfl
   push_cast (disch:=omega)[hρ,aDo,aInt]
   refine Qb ?_
   push_cast (disch:=omega)[hρ]
   refine Q5 (cs:=aRg z8) rfl (Q04 _) i7 (by decide) ?_
   rw[set8]
   push_cast (disch:=omega)[hρ]
   refine Q5 (cs:=aEf ef0) rfl (X01 _) i8 (by decide) ?_
   rw[set5']
   push_cast (disch:=omega)[hρ]
   exact fin78 _ (by push_cast (disch:=omega)[hρ];try rfl)
  ·refine Qb ?_
   push_cast (disch:=omega)[hρ]
   refine Q3 hDo ?_
   rintro a rfl
   push_cast (disch:=omega)[hρ,aDo,aInt]
   refine Q5 (cs:=aRg z8) rfl (Q04 _) i7 (by decide) ?_
   rw[set8]
   push_cast (disch:=omega)[hρ]
   refine Q5 (cs:=aEf ef0) rfl (X01 _) i8 (by decide) ?_
   rw[set5']
   push_cast (disch:=omega)[hρ]
   exact fin78 _ (by push_cast (disch:=omega)[hρ];try rfl)
 ·refine Qb ?_
  push_cast (disch:=omega)[hρ]
  refine ⟨?_,?_⟩
  ·refine Q3 hDo ?_
   rintro a rfl
   push_cast (disch:=omega)[hρ,aDo,aInt]
   refine Qb ?_
   push_cast (disch:=omega)[hρ]
   refine Q5 (cs:=aRg z8) rfl (Q04 _) j7 (by decide) ?_
   rw[set8]
   push_cast (disch:=omega)[hρ]
   refine Q5 (cs:=aEf ef0) rfl (X01 _) j8 (by decide) ?_
   rw[set5']
   push_cast (disch:=omega)[hρ]
   exact fin87 _ (by push_cast (disch:=omega)[hρ];try rfl)
  ·refine Qb ?_
   push_cast (disch:=omega)[hρ]
   refine Q3 hDo ?_
   rintro a rfl
   push_cast (disch:=omega)[hρ,aDo,aInt]
   refine Q5 (cs:=aRg z8) rfl (Q04 _) j7 (by decide) ?_
   rw[set8]
   push_cast (disch:=omega)[hρ]
   refine Q5 (cs:=aEf ef0) rfl (X01 _) j8 (by decide) ?_
   rw[set5']
   push_cast (disch:=omega)[hρ]
   exact fin87 _ (by push_cast (disch:=omega)[hρ];try rfl)
end
end Go.Proofs.YtncdnegdlkmicaaGreat.Sr
