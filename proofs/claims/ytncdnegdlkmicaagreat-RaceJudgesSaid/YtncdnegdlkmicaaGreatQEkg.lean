/- The document's evaluator: run: what an instruction asks for: the walk. -/
import Derived.Test.YtncdnegdlkmicaaGreatQEkf
namespace Go.Proofs.YtncdnegdlkmicaaGreat.Sr
set_option linter.unusedVariables false
set_option linter.unusedSimpArgs false
open Go Go.Kx Go.Proofs
theorem begins_no {s:Sv} {e:Ef} (h:e.k=0∨e.k=7):s.begins e=s:=by
 unfold Sv.begins
 rw[if_neg (by omega),if_neg (by omega),if_neg (by omega)]
theorem begins_5 {s:Sv} {e:Ef} (h:e.k=5):s.begins e=({ s with out:=s.out++[e.v] }:Sv).mark 3 e.v:=by
 unfold Sv.begins
 rw[if_pos h]
theorem begins_6 {s:Sv} {e:Ef} {f:Sf} {r:List Sf} (h:e.k=6) (hl:s.l=f::r):(s.begins e).l=⟨1,e.v,0,f.regs,false,0,0,0⟩::{ f with dirty:=true }::r ∧
  (s.begins e).e=({ s.mark 4 0 with frames:=IntKind.i64.wrap (s.frames+1),deepest:=max s.deepest ((s.l.length+1:Nat):Int) }:Sv).e∧(s.begins e).status=s.status:=by
 have e0:s.begins e=((s.setTop fun f=>{ f with dirty:=true }).mark 4 0).push ⟨1,e.v,0,s.top.regs,false,0,0,0⟩:=by
  unfold Sv.begins
  rw[if_neg (by omega),if_pos h]
 have hs:=Q24 s fun f=>{ f with dirty:=true }
 have hlen:=Z57 (s:=s) fun f=>{ f with dirty:=true }
 have hsl:=Q54 hl fun f=>{ f with dirty:=true }
 rw[e0,XY hl]
 generalize s.setTop (fun f=>{ f with dirty:=true })=u at hs hlen hsl
 have h1:u.data=s.data:=by have:=congrArg Sv.data hs;exact this
 have h2:u.out=s.out:=by have:=congrArg Sv.out hs;exact this
 have h3:u.marks=s.marks:=by have:=congrArg Sv.marks hs;exact this
 have h4:u.serial=s.serial:=by have:=congrArg Sv.serial hs;exact this
 have h5:u.steps=s.steps:=by have:=congrArg Sv.steps hs;exact this
 have h6:u.frames=s.frames:=by have:=congrArg Sv.frames hs;exact this
 have h7:u.deepest=s.deepest:=by have:=congrArg Sv.deepest hs;exact this
 have h8:u.status=s.status:=by have:=congrArg Sv.status hs;exact this
 have h9:u.why=s.why:=by have:=congrArg Sv.why hs;exact this
 refine ⟨?_,?_,h8⟩
 ·show _::u.l=_
  rw[hsl]
 ·have hl2:(u.mark 4 0).l.length=s.l.length:=hlen
  unfold Sv.push Sv.e
  rw[hl2]
  simp only[Sv.mark,h1,h2,h3,h4,h5,h6,h7,h8,h9]
theorem ask_e (s:Sv) (pc:Int) (rs:List Int) (e:Ef) {f:Sf} {r:List Sf} (hl:s.l=f::r):
  ((askD s.data e).2.1=true→(s.ask pc rs e).e=(({ s with data:=(askD s.data e).2.2 }:Sv).mark (if e.k=1 then 1 else 2) e.at_).e∧(s.ask pc rs e).l={ f with pc:=pc,regs:=tookR rs e (askD s.data e).1 }::r) ∧
   ((askD s.data e).2.1=false→s.ask pc rs e=s.stop 4 2):=by
 unfold Sv.ask
 constructor
 ·intro h
  rw[if_pos h]
  exact ⟨Q24 _ _,Q54 (show (({ s with data:=(askD s.data e).2.2 }:Sv).mark (if e.k=1 then 1 else 2) e.at_).l=f::r from hl) _⟩
 ·intro h
  rw[if_neg (by rw[h];decide)]
theorem goOn_e (s:Sv) (pc:Int) (e:Ef) {f q:Sf} {r:List Sf} (hl:s.l=f::q::r) (hk:f.kind=2) (hg:goE f.stage e.v=0):
  (s.goOn pc e).e=(s.mark (if e.k=9 then 11 else 12) e.v).e∧(s.goOn pc e).l={ f with pc:=pc,stage:=e.v }::{ q with regs:=endL f q.regs }::r:=by
 have hkl:=Sv.XD hl
 have hL:endL f q.regs=if f.stage=0 then f.regs else q.regs:=by
  unfold endL
  by_cases hz:f.stage=0
  ·rw[if_pos hz,if_pos ⟨hk,hz⟩]
  ·rw[if_neg hz,if_neg (fun c=>hz c.2)]
 rw[←hL] at hkl
 unfold Sv.goOn
 rw[XY hl,if_neg (by simpa using hk),if_neg (by simpa using hg)]
 refine ⟨?_,?_⟩
 ·rw[Z20,Q24,e_keep,Z20]
 ·show (s.keep.setTop _).l=_
  rw[Q54 hkl]
theorem goOn_stop (s:Sv) (pc:Int) (e:Ef) {f:Sf} {r:List Sf} (hl:s.l=f::r):(f.kind≠2→s.goOn pc e=s.stop 4 4)∧(f.kind=2→goE f.stage e.v≠0→s.goOn pc e=s.stop 4 3):=by
 unfold Sv.goOn
 rw[XY hl]
 constructor
 ·intro h;rw[if_pos h]
 ·intro h hg
  rw[if_neg (by simpa using h),if_pos hg]
  have:goE f.stage e.v=3:=by
   unfold goE at hg ⊢
   split at hg
   ·rename_i c;rw[if_pos c]
   ·exact absurd rfl hg
  rw[this]
theorem leave_stop (s:Sv) {f:Sf} {r:List Sf} (hl:s.l=f::r):(f.kind≠2→s.leave=s.stop 4 4)∧(f.kind=2→f.stage≠0→s.leave=s.stop 4 5):=by
 unfold Sv.leave
 rw[XY hl]
 constructor
 ·intro h;rw[if_pos h]
 ·intro h hg
  rw[if_neg (by simpa using h),if_pos hg]
theorem KR.len {F:Sf} {K K':List Sf} {lp:List Int} (h:KR F K K' lp):K'.length=K.length:=by
 rcases h with ⟨_,rfl⟩|⟨_,q,r,rfl,_,rfl⟩
 ·rfl
 ·rfl
theorem XG {s s':Sv} (h:s'.e=s.e):s'.status=s.status:=by have:=congrArg Sv.status h;exact this
theorem DvAt.onil {σ:Kx.St} {iv:Nat} {m:Int} {fs:List (List Ix)} {fuel:Int} {t:DvT} {s:Sv} (h:DvAt σ iv m fs fuel t s) (ht:t.o=.nil) (v:Int):
  DvAt ((σ++[Res.tail 1]).set iv (.obj 0 (dvC m fs fuel ⟨t.p,t.j,.id σ.length 1 1,t.m⟩ { s with out:=s.out++[v] }))) iv m fs fuel ⟨t.p,t.j,.id σ.length 1 1,t.m⟩ { s with out:=s.out++[v] }:=by
 have hoa:=Q7 (τ:=[Res.tail 1]) h.obj
 refine ⟨Q4 hoa,Q0 (Ne.symm h.nj) (Q7 h.dat),h.nj,.inr ⟨σ.length,1,rfl,Q0 (by have:=Qm h.obj;omega) (Qn _ _)⟩,(h.m.app _).set hoa,?_⟩
 rintro j w z j' w' z' h1 h2
 cases h1
 rcases h.m with ⟨_,c⟩|⟨_,_,c,hh⟩
 ·have h2:t.m=.id j' w' z':=h2
  rw[c] at h2;cases h2
 ·have h2:t.m=.id j' w' z':=h2
  rw[c] at h2;cases h2
  have:=Qm hh
  omega
theorem DvAt.oid {σ:Kx.St} {iv:Nat} {m:Int} {fs:List (List Ix)} {fuel:Int} {t:DvT} {s:Sv} (h:DvAt σ iv m fs fuel t s) {j w:Nat} (ht:t.o=.id j w 1) (hj:σ[j]?=some (.tail w)) (v:Int):
  DvAt ((σ.set j (Res.tail (w+1))).set iv (.obj 0 (dvC m fs fuel ⟨t.p,t.j,.id j (w+1) 1,t.m⟩ { s with out:=s.out++[v] }))) iv m fs fuel ⟨t.p,t.j,.id j (w+1) 1,t.m⟩ { s with out:=s.out++[v] }:=by
 have ho:=h.obj
 have hji:j≠iv:=by rintro rfl;rw[ho] at hj;cases hj
 have hjd:j≠t.j:=by rintro rfl;rw[h.dat] at hj;cases hj
 have hoa:(σ.set j (Res.tail (w+1)))[iv]?=some (.obj 0 (dvC m fs fuel t s)):=Q0 hji ho
 refine ⟨Q4 hoa,Q0 (Ne.symm h.nj) (Q0 hjd h.dat),h.nj,.inr ⟨j,w+1,rfl,Q0 (Ne.symm hji) (Q4 hj)⟩,?_,?_⟩
 ·rcases h.m with c|⟨j',w',c,hh⟩
  ·exact .inl c
  ·have hne:=h.d j w 1 j' w' 3 ht c
   exact .inr ⟨j',w',c,Q0 (by rintro rfl;rw[ho] at hh;cases hh) (Q0 hne hh)⟩
 ·rintro j1 w1 z1 j' w' z' h1 h2
  cases h1
  exact h.d j w 1 j' w' z' ht h2
section
variable {m:Int} {fs:List (List Ix)} {d N n n2 k1:Nat} {σ σ2:Kx.St} {iv fi tj:Nat} {deep:Int} {r:Int×List Int×Ef×Int} {lp:List Int} {s0 s1:Sv} {F F1:Sf} {K K':List Sf} {ε:AEnv} {Nx:AEnv→Kx.St→Prop} {R:AEnv→Kx.St→Prop}
set_option maxHeartbeats 64000000 in
theorem round_sw (hM:Mid σ iv fi m fs N tj deep r lp s1 F1 ε σ2) (h1:fi≠iv) (h2:fi≠tj) (hs:s1.status=0) (hr0:r.2.2.2=0) (hreg:5≤r.2.2.1.k→r.2.1=F1.regs) (hk0:0≤r.2.2.1.k) (hk12:r.2.2.1.k≤12) (hr8:r.2.1.length=8)
  (hl:s1.l=F1::K') (hkind:F1.kind=F.kind) (hKR:KR F K K' lp) (hlen:deep=s1.l.length) (hdb:s1.l.length≤1000000) (hst:F1.kind=1∨(F1.kind=2∧∃q p r',K'=q::p::r'))
  (hm:s1.marks.length≤900000) (hou:s1.out.length≤900000) (hdl:s1.data.length≤1000000) (hT:Iv fs d k1 (s1.act r)) (hkn:k1+n2=N) (hNN:N≤100000) (hn2:n2 < n) (hLx:Lx fs n s0=Lx fs n2 (s1.act r))
  (ihR:SR m fs d N n2) (ihP:SP m fs d N n2)
  (hN:∀n3 ε' σ',n3≤n2→Head m fs d N n σ iv fi tj s0 F K deep n3 ε' σ'→act (Nx ε' σ')) (hR:∀ε' σ',Out m fs d N n σ iv fi tj s0 F K σ'→act (R ε' σ')) (X:Nat→AEnv→Kx.St→Prop)
  {A6:SCode} (hA6:A6=(match Q9 with|.seq _ (.block _ (.seq _ (.seq _ (.seq _ (.seq _ (.seq _ a))))))=>a|_=>.skip)):
  act (wpA Tryz.prog A6 Nx X R ε σ2):=by
 subst hA6
 simp only[Q9]
 obtain ⟨A,B,t',htj,hρ,hD,hf,hA,hB,⟨n1',n2',n3',n4',n5',n6'⟩,hK⟩:=hM
 have g0:(aEf r.2.2.1)[0]?=some (.v (.int .i64 r.2.2.1.k)):=rfl
 have g2:(aEf r.2.2.1)[2]?=some (.v (.int .i64 r.2.2.1.v)):=rfl
 have h2':fi≠t'.j:=by rw[htj];exact h2
 have KF:∀{S:Kx.St} (x:Res),Kp S (S.set fi x) (fun k=>k=iv∨k=fi∨k=tj):=fun x=>Kp.set (.inr (.inl rfl)) x
 have headA:∀(ε':AEnv) (σ':Kx.St) (t2:DvT) (sx:Sv),(ε' 0=.ref iv 0 0∧ε' 1=.ref fi 0 0∧ε' 2=.v (.int .i64 deep))→t2.j=tj→Kp σ σ' (fun k=>k=iv∨k=fi∨k=tj)→DvAt σ' iv m fs N t2 sx→sx.status≠0→sx.e=(s1.act r).e→(∃F' lp',σ'[fi]?=some (.obj 0 (frC F' lp' false)))→act (Nx ε' σ'):=by
  intro ε' σ' t2 sx q1 q2 q3 q4 q5 q6 q7
  refine hN n2 _ _ (Nat.le_refl _) ⟨q1,t2,sx,q2,q3,q4,.inl ⟨q5,?_,q7⟩⟩
  rw[hLx,X58 n2 (by rw[←XG q6];exact q5),q6]
 have headB:∀(ε':AEnv) (σ':Kx.St) (t2:DvT) (sx:Sv) (F2:Sf) (K2:List Sf) (lp2:List Int),(ε' 0=.ref iv 0 0∧ε' 1=.ref fi 0 0∧ε' 2=.v (.int .i64 deep))→t2.j=tj→Kp σ σ' (fun k=>k=iv∨k=fi∨k=tj)→DvAt σ' iv m fs N t2 sx→sx.status=0→(s1.act r).e=sx.e →
   (s1.act r).l=F2::K2→σ'[fi]?=some (.obj 0 (frC F2 lp2 false))→F2.kind=F.kind→KR F K K2 lp2→act (Nx ε' σ'):=by
  intro ε' σ' t2 sx F2 K2 lp2 q1 q2 q3 q4 q5 q6 q7 q8 q9 q10
  exact hN n2 _ _ (Nat.le_refl _) ⟨q1,t2,s1.act r,q2,q3,q4.e q6,.inr ⟨by rw[XG q6];exact q5,k1,F2,K2,lp2,by omega,hLx,hT,hkn,q7,q8,q9,q10⟩⟩
 have outA:∀(ε':AEnv) (σ':Kx.St) (t2:DvT) (sx:Sv),t2.j=tj→Kp σ σ' (fun k=>k=iv∨k=fi∨k=tj)→DvAt σ' iv m fs N t2 sx→sx.status≠0→sx.e=(s1.act r).e→(∃F' lp',σ'[fi]?=some (.obj 0 (frC F' lp' false)))→act (R ε' σ'):=by
  intro ε' σ' t2 sx q2 q3 q4 q5 q6 q7
  refine hR _ _ ⟨t2,sx,q2,q3,q4,.inl ⟨q5,?_,q7⟩⟩
  rw[hLx,X58 n2 (by rw[←XG q6];exact q5),q6]
 by_cases c07:r.2.2.1.k=0∨r.2.2.1.k=7
 ·have hact:s1.act r=s1.setTop fun f=>{ f with pc:=r.1,regs:=r.2.1 }:=by rw[X29 s1 hr0 (by omega),begins_no c07]
  have hs1:(σ2.set fi (Res.obj 0 (frC { F1 with pc:=r.1 } lp false)))[fi]?=some (.obj 0 (frC { F1 with pc:=r.1 } lp false)):=Q4 hf
  have hA1:(σ2.set fi (Res.obj 0 (frC { F1 with pc:=r.1 } lp false)))[A]?=some (.obj 0 (aRg r.2.1)):=Q0 (Ne.symm n3') hA
  have hD1:=(hD.setO (r:=.obj 0 (frC { F1 with pc:=r.1 } lp false)) hf h1 h2').setO (r:=.obj 0 (frC { F1 with pc:=r.1,regs:=r.2.1 } lp false)) hs1 h1 h2'
  have hh:=headB (sx:=s1) (F2:={ F1 with pc:=r.1,regs:=r.2.1 }) (K2:=K') (lp2:=lp) (t2:=t') (σ':=(σ2.set fi (Res.obj 0 (frC { F1 with pc:=r.1 } lp false))).set fi (Res.obj 0 (frC { F1 with pc:=r.1,regs:=r.2.1 } lp false)))
  have fin:∀ε':AEnv,(ε' 0=.ref iv 0 0∧ε' 1=.ref fi 0 0∧ε' 2=.v (.int .i64 deep))→act (Nx ε' ((σ2.set fi (Res.obj 0 (frC { F1 with pc:=r.1 } lp false))).set fi (Res.obj 0 (frC { F1 with pc:=r.1,regs:=r.2.1 } lp false)))):=fun ε' q=>
   hh ε' q htj ((hK.trans (KF _)).trans (KF _)) hD1 hs (by rw[hact];exact Q24 _ _) (by rw[hact];exact Q54 hl _) (Q4 hs1) hkind hKR
  rcases c07 with c|c
  ·push_cast (disch:=omega)[hρ,hB,g0,c]
   refine Q6 rfl rfl hf (by rw[Q25];decide) ?_
   rw[frs1]
   push_cast (disch:=omega)[hρ,hA1,cells8]
   refine Q5 rfl (Q04 _) hs1 (by rw[Q25];decide) ?_
   rw[frsR]
   push_cast (disch:=omega)[hρ]
   exact fin _ (by push_cast (disch:=omega)[hρ])
  ·push_cast (disch:=omega)[hρ,hB,g0,c]
   refine Q6 rfl rfl hf (by rw[Q25];decide) ?_
   rw[frs1]
   push_cast (disch:=omega)[hρ,hA1,cells8]
   refine Q5 rfl (Q04 _) hs1 (by rw[Q25];decide) ?_
   rw[frsR]
   push_cast (disch:=omega)[hρ]
   exact fin _ (by push_cast (disch:=omega)[hρ])
 have c0:¬r.2.2.1.k=0:=fun c=>c07 (.inl c)
 have c7:¬r.2.2.1.k=7:=fun c=>c07 (.inr c)
 by_cases c4:r.2.2.1.k≤4
 ·have hact:s1.act r=s1.ask r.1 r.2.1 r.2.2.1:=act_ask s1 hr0 (by omega)
  obtain ⟨ha1,ha2⟩:=ask_e s1 r.1 r.2.1 r.2.2.1 hl
  have hmem:=ev_memory_a hD hs hf h1 h2' r.1 r.2.1 hr8 r.2.2.1 (by omega) (by omega) hdl
  push_cast (disch:=omega)[hρ,hB,g0,c0,c7,c4,hA,cells8,cells5]
  refine Q2 hmem ?_
  rintro a σ' ⟨rfl,t2,q0,q1,q2⟩
  rw[htj] at q0 q1
  rcases q2 with ⟨b1,b2,b3⟩|⟨b1,b2,b3⟩
  ·obtain ⟨e1,e2⟩:=ha1 b1
   push_cast (disch:=omega)[hρ]
   exact headB _ _ t2 _ _ _ lp (by push_cast (disch:=omega)[hρ]) q0 (hK.trans q1) b2 hs (by rw[hact];exact e1) (by rw[hact];exact e2) b3 hkind hKR
  ·have e1:=ha2 b1
   push_cast (disch:=omega)[hρ]
   exact headA _ _ t2 _ (by push_cast (disch:=omega)[hρ]) q0 (hK.trans q1) b2 (by show (4:Int)≠0;decide) (by rw[hact,e1]) ⟨_,_,b3⟩
 have hreg':=hreg (by omega)
 by_cases c5:r.2.2.1.k=5
 ·have hact:s1.act r=(({ (s1.setTop fun f=>{ f with pc:=r.1,regs:=r.2.1 }) with out:=(s1.setTop fun f=>{ f with pc:=r.1,regs:=r.2.1 }).out++[r.2.2.1.v] }:Sv).mark 3 r.2.2.1.v):=by rw[X29 s1 hr0 (by omega),begins_5 c5]
  have hT1:(s1.act r).e=(({ s1 with out:=s1.out++[r.2.2.1.v] }:Sv).mark 3 r.2.2.1.v).e:=by
   rw[hact]
   show (({ (s1.setTop fun f=>{ f with pc:=r.1,regs:=r.2.1 }).e with out:=(s1.setTop fun f=>{ f with pc:=r.1,regs:=r.2.1 }).e.out++[r.2.2.1.v] }:Sv).mark 3 r.2.2.1.v)=_
   rw[Q24]
   rfl
  have hT2:(s1.act r).l={ F1 with pc:=r.1,regs:=r.2.1 }::K':=by
   rw[hact]
   exact Q54 hl _
  rw[hreg'] at hT2
  have ho:=hD.obj
  have d3:(dvC m fs N t' s1)[3]?=some (.sl s1.out.length (s1.out.map aInt) t'.o):=rfl
  have hol:(s1.out.map aInt).length=s1.out.length * 1:=by simp
  have hfd:fi≠iv:=h1
  have fin:∀(σ3:Kx.St) (t3:DvT) (ε':AEnv),t3.j=tj→DvAt σ3 iv m fs N t3 { s1 with out:=s1.out++[r.2.2.1.v] }→Kp σ2 σ3 (fun k=>k=iv)→(ε' 0=.ref iv 0 0∧ε' 1=.ref fi 0 0∧ε' 2=.v (.int .i64 deep)∧ε' 6=.v (.int .i64 r.1)∧ε' 8=.ref B 0 0) →
    σ3[B]?=some (.obj 0 (aEf r.2.2.1))∧FnG Tryz.prog 47 [.ref iv 0 0,.v (.int .i64 3),.v (.int .i64 r.2.2.1.v)] σ3 fun x σ'=>x=.tup []∧∃t4,t4.j=tj∧DvAt σ' iv m fs N t4 (({ s1 with out:=s1.out++[r.2.2.1.v] }:Sv).mark 3 r.2.2.1.v)∧σ'[fi]?=some (.obj 0 (frC F1 lp false))∧Kp σ σ' (fun k=>k=iv∨k=fi∨k=tj):=by
   intro σ3 t3 ε' q0 q1 q2 q3
   refine ⟨q2.2 B _ n4' hB,(QP q1 (by show s1.marks.length≤_;omega) 3 r.2.2.1.v).mono ?_⟩
   rintro x σ' ⟨p1,t4,p2,p3,p4⟩
   exact ⟨p1,t4,p2.trans q0,p3,p4.2 fi _ h1 (q2.2 fi _ h1 hf),(hK.trans (q2.weak fun k hk=>.inl hk)).trans (p4.weak fun k hk=>.inl hk)⟩
  have fin2:∀(σ4:Kx.St) (t4:DvT) (ε':AEnv),t4.j=tj→DvAt σ4 iv m fs N t4 (({ s1 with out:=s1.out++[r.2.2.1.v] }:Sv).mark 3 r.2.2.1.v)→σ4[fi]?=some (.obj 0 (frC F1 lp false))→Kp σ σ4 (fun k=>k=iv∨k=fi∨k=tj)→(ε' 0=.ref iv 0 0∧ε' 1=.ref fi 0 0∧ε' 2=.v (.int .i64 deep)) →
    act (Nx ε' (σ4.set fi (.obj 0 (frC { F1 with pc:=r.1 } lp false)))):=by
   intro σ4 t4 ε' q0 q1 q2 q3 q4
   exact headB ε' _ t4 _ _ K' lp q4 q0 (q3.trans (KF _)) (q1.setO q2 h1 (by rw[q0];exact h2)) (show s1.status=0 from hs) hT1 hT2 (Q4 q2) hkind hKR
  rcases hD.o with ⟨h0,ht⟩|⟨j,w,ht,hj⟩
  ·have hnil:s1.out=[]:=List.eq_nil_of_length_eq_zero h0
   have hD3:=hD.onil ht r.2.2.1.v
   have hK3:Kp σ2 ((σ2++[Res.tail 1]).set iv (.obj 0 (dvC m fs N ⟨t'.p,t'.j,.id σ2.length 1 1,t'.m⟩ { s1 with out:=s1.out++[r.2.2.1.v] }))) (fun k=>k=iv):=(Kp.app σ2 _ _).trans (Kp.one _)
   have e3:(dvC m fs N t' s1).set 3 (.sl 1 [.v (.int .i64 r.2.2.1.v)] (.id σ2.length 1 1))=dvC m fs N ⟨t'.p,t'.j,.id σ2.length 1 1,t'.m⟩ { s1 with out:=s1.out++[r.2.2.1.v] }:=by
    simp only[dvC,hnil]
    rfl
   rw[hnil,ht] at d3
   push_cast (disch:=omega)[hρ,hB,g0,c0,c7,c4,c5,ho,d3,g2]
   refine Qf (sz:=1) (by intro a ha;simp at ha;subst ha;rfl) (by simp) ?_
   push_cast (disch:=omega)[hρ]
   refine Q87 (m:=1) (news:=[.v (.int .i64 r.2.2.1.v)]) rfl rfl rfl rfl (by omega) (by omega) ?_
   push_cast (disch:=omega)[hρ]
   refine Q6 rfl rfl (Q7 ho) (by simp[dvC]) ?_
   rw[e3]
   obtain ⟨hB3,hmk⟩:=fin _ ⟨t'.p,t'.j,.id σ2.length 1 1,t'.m⟩ ε htj hD3 hK3 ⟨hρ.1,hρ.2.1,hρ.2.2.1,hρ.2.2.2.1,hρ.2.2.2.2.2.1⟩
   push_cast (disch:=omega)[hρ,hB3,g2]
   refine Q2 hmk ?_
   rintro a σ4 ⟨rfl,t4,p1,p2,p3,p4⟩
   push_cast (disch:=omega)[hρ]
   refine Q6 rfl rfl p3 (by rw[Q25];decide) ?_
   rw[frs1]
   push_cast (disch:=omega)[hρ]
   exact fin2 _ t4 _ p1 p2 p3 p4 (by push_cast (disch:=omega)[hρ])
  ·have hD3:=hD.oid ht hj r.2.2.1.v
   have hji:j≠iv:=by rintro rfl;rw[ho] at hj;cases hj
   have hK3:Kp σ2 ((σ2.set j (Res.tail (w+1))).set iv (.obj 0 (dvC m fs N ⟨t'.p,t'.j,.id j (w+1) 1,t'.m⟩ { s1 with out:=s1.out++[r.2.2.1.v] }))) (fun k=>k=iv):=(Kp.tail hj _ _).trans (Kp.one _)
   have e3:(dvC m fs N t' s1).set 3 (.sl (s1.out.length+1) (s1.out.map aInt++[.v (.int .i64 r.2.2.1.v)]) (.id j (w+1) 1))=dvC m fs N ⟨t'.p,t'.j,.id j (w+1) 1,t'.m⟩ { s1 with out:=s1.out++[r.2.2.1.v] }:=by
    simp[dvC,aInt]
   rw[ht] at d3
   push_cast (disch:=omega)[hρ,hB,g0,c0,c7,c4,c5,ho,d3,g2]
   refine Qf (sz:=1) (by intro a ha;simp at ha;subst ha;rfl) (by simp) ?_
   push_cast (disch:=omega)[hρ]
   refine Z08 (m:=1) (news:=[.v (.int .i64 r.2.2.1.v)]) rfl rfl rfl rfl hol (by omega) (by omega) hj ?_
   push_cast (disch:=omega)[hρ]
   refine Q6 rfl rfl (Q0 hji ho) (by simp[dvC]) ?_
   rw[e3]
   obtain ⟨hB3,hmk⟩:=fin _ ⟨t'.p,t'.j,.id j (w+1) 1,t'.m⟩ ε htj hD3 hK3 ⟨hρ.1,hρ.2.1,hρ.2.2.1,hρ.2.2.2.1,hρ.2.2.2.2.2.1⟩
   push_cast (disch:=omega)[hρ,hB3,g2]
   refine Q2 hmk ?_
   rintro a σ4 ⟨rfl,t4,p1,p2,p3,p4⟩
   push_cast (disch:=omega)[hρ]
   refine Q6 rfl rfl p3 (by rw[Q25];decide) ?_
   rw[frs1]
   push_cast (disch:=omega)[hρ]
   exact fin2 _ t4 _ p1 p2 p3 p4 (by push_cast (disch:=omega)[hρ])
 by_cases c6:r.2.2.1.k=6
 ·have hact:s1.act r=(s1.setTop fun f=>{ f with pc:=r.1,regs:=r.2.1 }).begins r.2.2.1:=X29 s1 hr0 (by omega)
  have hSl:=Q54 hl fun f=>{ f with pc:=r.1,regs:=r.2.1 }
  obtain ⟨b1,b2,b3⟩:=begins_6 c6 hSl
  have hSe:=Q24 s1 fun f=>{ f with pc:=r.1,regs:=r.2.1 }
  have hSlen:=Z57 (s:=s1) fun f=>{ f with pc:=r.1,regs:=r.2.1 }
  rw[←hact] at b1 b2 b3
  generalize s1.setTop (fun f=>{ f with pc:=r.1,regs:=r.2.1 })=S at hSl b2 b3 hSe hSlen
  simp only[hreg'] at b1
  have hTfr:(s1.act r).frames=IntKind.i64.wrap (s1.frames+1):=by
   have e1:=congrArg Sv.frames b2
   have e2:S.frames=s1.frames:=by have:=congrArg Sv.frames hSe;exact this
   have e1:(s1.act r).frames=IntKind.i64.wrap (S.frames+1):=e1
   rw[e1,e2]
  have hTdp:(s1.act r).deepest=max s1.deepest (deep+1):=by
   have e1:=congrArg Sv.deepest b2
   have e2:S.deepest=s1.deepest:=by have:=congrArg Sv.deepest hSe;exact this
   have e1:(s1.act r).deepest=max S.deepest ((S.l.length+1:Nat):Int):=e1
   rw[e1,e2,hSlen,hlen]
   rfl
  have hTe:({ s1.act r with frames:=s1.frames,deepest:=s1.deepest }:Sv).e=(s1.mark 4 0).e:=by
   have e1:({ (s1.act r).e with frames:=s1.frames,deepest:=s1.deepest }:Sv)={ (S.mark 4 0).e with frames:=s1.frames,deepest:=s1.deepest }:=by rw[b2];rfl
   have e2:(S.mark 4 0).e=(s1.mark 4 0).e:=by rw[Z20,hSe,Z20]
   rw[e2] at e1
   exact e1
  have hTs:(s1.act r).status=0:=by
   rw[b3]
   have:=congrArg Sv.status hSe
   have this:S.status=s1.status:=this
   rw[this,hs]
  have hs1:(σ2.set fi (Res.obj 0 (frC { F1 with pc:=r.1 } lp false)))[fi]?=some (.obj 0 (frC { F1 with pc:=r.1 } lp false)):=Q4 hf
  have hs2:((σ2.set fi (Res.obj 0 (frC { F1 with pc:=r.1 } lp false))).set fi (Res.obj 0 (frC { F1 with pc:=r.1,dirty:=true } lp false)))[fi]?=some (.obj 0 (frC { F1 with pc:=r.1,dirty:=true } lp false)):=Q4 hs1
  have hB1:(σ2.set fi (Res.obj 0 (frC { F1 with pc:=r.1 } lp false)))[B]?=some (.obj 0 (aEf r.2.2.1)):=Q0 (Ne.symm n6') hB
  have hB2:((σ2.set fi (Res.obj 0 (frC { F1 with pc:=r.1 } lp false))).set fi (Res.obj 0 (frC { F1 with pc:=r.1,dirty:=true } lp false)))[B]?=some (.obj 0 (aEf r.2.2.1)):=Q0 (Ne.symm n6') hB1
  have hD2:=(hD.setO (r:=.obj 0 (frC { F1 with pc:=r.1 } lp false)) hf h1 h2').setO (r:=.obj 0 (frC { F1 with pc:=r.1,dirty:=true } lp false)) hs1 h1 h2'
  have hK2:Kp σ ((σ2.set fi (Res.obj 0 (frC { F1 with pc:=r.1 } lp false))).set fi (Res.obj 0 (frC { F1 with pc:=r.1,dirty:=true } lp false))) (fun k=>k=iv∨k=fi∨k=tj):=(hK.trans (KF _)).trans (KF _)
  have hmk:=QP hD2 (by omega) 4 0
  have hbl:fillA [AV.v (.int .i64 0),AV.v (.int .i64 0),AV.v (.int .i64 0),AV.v (.int .i64 0),AV.v (.int .i64 0),AV.v (.int .i64 0),AV.v (.int .i64 0),AV.v (.int .i64 0),AV.v (.int .i64 0),AV.v (.int .i64 0),AV.v (.int .i64 0),AV.v (.int .i64 0),AV.v (.bool false),AV.v (.bool false),AV.v (.int .i64 0),AV.v (.int .i64 0),AV.v (.int .i64 0),AV.v (.int .i64 0),AV.v (.int .i64 0),AV.v (.int .i64 0),AV.v (.int .i64 0),AV.v (.int .i64 0),AV.v (.bool false)]
    [(0,1),(4,8)] [.v (.int .i64 r.2.2.1.v),.agg (aRg F1.regs)]=some (frC ⟨1,r.2.2.1.v,0,F1.regs,false,0,0,0⟩ z8 false):=rfl
  have hbc:(AV.agg (frC ⟨1,r.2.2.1.v,0,F1.regs,false,0,0,0⟩ z8 false)).cells=frC ⟨1,r.2.2.1.v,0,F1.regs,false,0,0,0⟩ z8 false:=rfl
  have fRR:cellsA (some 8) ((frC { F1 with pc:=r.1,dirty:=true } lp false).drop 4)=some (.agg (aRg F1.regs)):=rfl
  have hdI:IntKind.i64.wrap (deep+1)=deep+1:=Z90 _ (by omega) (by omega)
  push_cast (disch:=omega)[hρ,hB,g0,c0,c7,c4,c5,c6]
  refine Q6 rfl rfl hf (by rw[Q25];decide) ?_
  rw[frs1]
  push_cast (disch:=omega)[hρ]
  refine Q6 rfl rfl hs1 (by rw[Q25];decide) ?_
  rw[frs12]
  push_cast (disch:=omega)[hρ]
  refine Q2 hmk ?_
  rintro a σ3 ⟨rfl,t2,p1,p2,p3⟩
  have hf3:=p3.2 fi _ h1 hs2
  have hB3:=p3.2 B _ n4' hB2
  have hK3:=hK2.trans (p3.weak fun k hk=>.inl hk)
  have htj2:t2.j=tj:=p1.trans htj
  push_cast (disch:=omega)[hρ,hB3,g2,hf3,fRR,hbl,hdI]
  refine Qd ?_
  push_cast (disch:=omega)[hbc]
  have q1:=Qm p2.obj
  have q2:=Qm p2.dat
  have q3:=Qm hf3
  have hrun:=ihR (σ3++[Res.obj 0 (frC ⟨1,r.2.2.1.v,0,F1.regs,false,0,0,0⟩ z8 false)]) iv σ3.length t2 (s1.act r) ⟨1,r.2.2.1.v,0,F1.regs,false,0,0,0⟩ ({ F1 with pc:=r.1,regs:=F1.regs,dirty:=true }::K') z8 s1.frames s1.deepest (deep+1) k1
   ((p2.app _).e hTe) hTfr hTdp (by rw[b1,hlen,hl];simp) (Qn _ _) (by omega) (by omega) b1 hTs hT hkn (.inl ⟨rfl,rfl⟩)
  refine Q2 hrun ?_
  rintro a σ4 ⟨rfl,t3,sx,u0,u1,u2,u3⟩
  have htj3:t3.j=tj:=u0.trans htj2
  have hf4:=u1.2 fi _ (by rintro (c|c|c);exact h1 c;omega;exact h2 (c.trans htj2)) (Q7 hf3)
  have hK4:Kp σ σ4 (fun k=>k=iv∨k=fi∨k=tj):=(hK3.trans (Kp.app _ _ _)).drop u1 (fun j hj=>by
   rcases hj with c|c|c
   ·exact .inl (.inl c)
   ·have:=hK3.1;exact .inr (by omega)
   ·exact .inl (.inr (.inr (c.trans htj2))))
  have ho4:=u2.obj
  have d10:(dvC m fs N t3 sx)[10]?=some (.v (.int .i64 sx.status)):=rfl
  rcases u3 with ⟨v1,v2,_⟩|⟨F',lp',br,v1,v2⟩
  ·push_cast (disch:=omega)[hρ,ho4,d10,v1]
   exact hN n2 _ _ (Nat.le_refl _) ⟨by push_cast (disch:=omega)[hρ],t3,sx,htj3,hK4,u2,.inl ⟨v1,by rw[hLx];exact v2,_,_,hf4⟩⟩
  ·obtain ⟨w0,n3,k3,T2,w1,w2,w3,w4,w5⟩:=v2
   rcases w5 with ⟨_,_,y1,y2,y3⟩|⟨_,c,_⟩|⟨c,_⟩|⟨c,_⟩
   ·have hmks:sx.marks.length≤1000000:=by
     have e1:T2.marks=(sx.mark 5 0).marks:=by have:=congrArg Sv.marks y3;exact this
     have e2:=w4.m.marks
     have e3:(sx.mark 5 0).marks.length=sx.marks.length+1:=by simp[Sv.mark]
     rw[e1,e3] at e2
     omega
    push_cast (disch:=omega)[hρ,ho4,d10,w0]
    refine Q2 (QP u2 hmks 5 0) ?_
    rintro a σ5 ⟨rfl,t5,x1,x2,x3⟩
    push_cast (disch:=omega)[hρ]
    exact hN n3 _ _ (by omega) ⟨by push_cast (disch:=omega)[hρ],t5,T2,x1.trans htj3,hK4.trans (x3.weak fun k hk=>.inl hk),x2.e y3,.inr ⟨y1,k3,_,K',lp,by omega,by rw[hLx,w3],w4,w2,y2,x3.2 fi _ h1 hf4,hkind,hKR⟩⟩
   ·exact absurd c (by simp)
   ·exact absurd (show (1:Int)=2 from c) (by decide)
   ·exact absurd (show (1:Int)=2 from c) (by decide)
 by_cases c8:r.2.2.1.k=8
 ·have hact:s1.act r=(s1.setTop fun f=>{ f with pc:=r.1,regs:=r.2.1 }).begins r.2.2.1:=X29 s1 hr0 (by omega)
  have hSl:=Q54 hl fun f=>{ f with pc:=r.1,regs:=r.2.1 }
  have hSe:=Q24 s1 fun f=>{ f with pc:=r.1,regs:=r.2.1 }
  have hSlen:=Z57 (s:=s1) fun f=>{ f with pc:=r.1,regs:=r.2.1 }
  rw[hact] at hT hLx
  generalize s1.setTop (fun f=>{ f with pc:=r.1,regs:=r.2.1 })=S at hSl hSe hSlen hT hLx
  simp only[hreg'] at hSl
  have hSm:S.marks=s1.marks:=by have:=congrArg Sv.marks hSe;exact this
  have hs1:(σ2.set fi (Res.obj 0 (frC { F1 with pc:=r.1 } lp false)))[fi]?=some (.obj 0 (frC { F1 with pc:=r.1 } lp false)):=Q4 hf
  have hB1:(σ2.set fi (Res.obj 0 (frC { F1 with pc:=r.1 } lp false)))[B]?=some (.obj 0 (aEf r.2.2.1)):=Q0 (Ne.symm n6') hB
  have hD1:=(hD.setO (r:=.obj 0 (frC { F1 with pc:=r.1 } lp false)) hf h1 h2').e hSe
  have hdI:IntKind.i64.wrap (deep+1)=deep+1:=Z90 _ (by omega) (by omega)
  have hpipe:=ihP _ iv fi t' S { F1 with pc:=r.1 } K' lp false r.2.2.1 (deep+1) k1 hD1 (by rw[hSlen,hlen]) hs1 h1 h2' hSl (by rw[XG hSe];exact hs) c8 (by rw[hSm];exact hm) hT hkn
  push_cast (disch:=omega)[hρ,hB,g0,c0,c7,c4,c5,c6,c8]
  refine Q6 rfl rfl hf (by rw[Q25];decide) ?_
  rw[frs1]
  push_cast (disch:=omega)[hρ,hB1,g2,hdI]
  refine Q2 hpipe ?_
  rintro a σ3 ⟨rfl,t3,sx,u0,u1,u2,u3⟩
  have hK3:Kp σ σ3 (fun k=>k=iv∨k=fi∨k=tj):=(hK.trans (KF _)).trans (u1.weak fun k hk=>by rcases hk with c|c|c;exact .inl c;exact .inr (.inl c);exact .inr (.inr (c.trans htj)))
  push_cast (disch:=omega)[hρ]
  rcases u3 with ⟨v1,v2,v3⟩|⟨v1,n3,k3,L,w1,w2,w3,w4,w5,w6⟩
  ·exact hN n2 _ _ (Nat.le_refl _) ⟨by push_cast (disch:=omega)[hρ],t3,sx,u0.trans htj,hK3,u2,.inl ⟨v1,by rw[hLx];exact v2,_,_,v3⟩⟩
  ·exact hN n3 _ _ (by omega) ⟨by push_cast (disch:=omega)[hρ],t3,sx,u0.trans htj,hK3,u2,.inr ⟨v1,k3,_,K',lp,by omega,by rw[hLx,w3],w4,w2,w5,w6,hkind,hKR⟩⟩
 have hk9:9≤r.2.2.1.k:=by omega
 have hends:=ev_ends_a hD hs hf h1 h2' r.1 r.2.2.1 ⟨hk9,hk12⟩ (by omega)
 have pre:∀{σ':Kx.St},Kp σ2 σ' (fun k=>k=iv∨k=fi)→Kp σ σ' (fun k=>k=iv∨k=fi∨k=tj):=fun h=>hK.trans (h.weak fun k hk=>by rcases hk with c|c;exact .inl c;exact .inr (.inl c))
 have hst4:∀b:Int,(s1.stop 4 b).status≠0:=fun b=>by show (4:Int)≠0;decide
 have e11:r.2.2.1.k=9∨r.2.2.1.k=10∨r.2.2.1.k=11∨r.2.2.1.k=12:=by omega
 have c9:¬r.2.2.1.k≤4:=c4
 refine QM fun X' _=>?_
 push_cast (disch:=omega)[hρ,hB,g0,c0,c7,c4,c5,c6,c8,cells5]
 refine Q2 hends ?_
 rintro a σ3 ⟨rfl,t3,q0,q1,q2,q3⟩
 have htj3:t3.j=tj:=q0.trans htj
 by_cases c910:r.2.2.1.k=9∨r.2.2.1.k=10
 ·have hact:s1.act r=s1.goOn r.1 r.2.2.1:=act_go s1 hr0 c910
  obtain ⟨gs1,gs2⟩:=goOn_stop s1 r.1 r.2.2.1 hl
  unfold endF at q2 q3 ⊢
  rw[if_pos c910] at q2 q3 ⊢
  by_cases hk2:F1.kind=2
  ·rw[if_neg (by simpa using hk2)] at q2 q3 ⊢
   by_cases hg:goE F1.stage r.2.2.1.v≠0
   ·rw[if_pos hg] at q2 q3 ⊢
    push_cast (disch:=omega)[hρ,aBool]
    exact headA _ _ t3 _ (by push_cast (disch:=omega)[hρ]) htj3 (pre q1) q2 (hst4 3) (by rw[hact,gs2 hk2 hg]) ⟨_,_,q3⟩
   ·rw[if_neg hg] at q2 q3 ⊢
    rcases hKR with ⟨c,_⟩|⟨c,q,rr,rfl,hq3,rfl⟩
    ·omega
    ·obtain ⟨u1,u2⟩:=goOn_e s1 r.1 r.2.2.1 hl hk2 (by simpa using hg)
     push_cast (disch:=omega)[hρ,aBool]
     exact headB _ _ t3 _ _ _ (endL F1 lp) (by push_cast (disch:=omega)[hρ]) htj3 (pre q1) q2 hs (by rw[hact];exact u1) (by rw[hact];exact u2) q3 hkind (.inr ⟨c,q,rr,rfl,hq3,rfl⟩)
  ·rw[if_pos hk2] at q2 q3 ⊢
   push_cast (disch:=omega)[hρ,aBool]
   exact headA _ _ t3 _ (by push_cast (disch:=omega)[hρ]) htj3 (pre q1) q2 (hst4 4) (by rw[hact,gs1 hk2]) ⟨_,_,q3⟩
 by_cases c11:r.2.2.1.k=11
 ·have hact:s1.act r=s1.leave:=act_leave s1 hr0 c11
  obtain ⟨ls1,ls2⟩:=leave_stop s1 hl
  unfold endF at q2 q3 ⊢
  rw[if_neg c910,if_pos c11] at q2 q3 ⊢
  by_cases hk2:F1.kind=2
  ·rw[if_neg (by simpa using hk2)] at q2 q3 ⊢
   by_cases hz:F1.stage=0
   ·rw[if_neg (by simpa using hz)] at q2 q3 ⊢
    rcases hKR with ⟨c,_⟩|⟨c,q,rr,rfl,hq3,hK'⟩
    ·omega
    ·rcases hst with c'|⟨_,q',p',r',hq'⟩
     ·omega
     ·rw[hK'] at hq'
      simp only[List.cons.injEq] at hq'
      obtain ⟨_,rfl⟩:=hq'
      rw[hK'] at hl
      obtain ⟨u1,u2,u3⟩:=leave_iter hl hk2 hz
      push_cast (disch:=omega)[hρ,aBool]
      exact hR _ _ ⟨t3,_,htj3,pre q1,q2,.inr ⟨_,_,_,q3,hs,n2,k1,s1.act r,hn2,hkn,hLx,hT,.inr (.inr (.inr ⟨c,rfl,q,p',r',rfl,by rw[hact,u3];exact hs,by rw[hact];exact u1,by rw[hact];exact u2⟩))⟩⟩
   ·rw[if_pos hz] at q2 q3 ⊢
    push_cast (disch:=omega)[hρ,aBool]
    exact outA _ _ t3 _ htj3 (pre q1) q2 (hst4 5) (by rw[hact,ls2 hk2 hz]) ⟨_,_,q3⟩
  ·rw[if_pos hk2] at q2 q3 ⊢
   push_cast (disch:=omega)[hρ,aBool]
   exact outA _ _ t3 _ htj3 (pre q1) q2 (hst4 4) (by rw[hact,ls1 hk2]) ⟨_,_,q3⟩
 have c12:r.2.2.1.k=12:=by omega
 have hact:s1.act r=s1.back:=act_back s1 hr0 c12
 unfold endF at q2 q3 ⊢
 rw[if_neg c910,if_neg c11] at q2 q3 ⊢
 by_cases hk2:F1.kind=2
 ·rw[if_pos hk2] at q2 q3 ⊢
  rcases hKR with ⟨c,_⟩|⟨c,q,rr,rfl,hq3,hK'⟩
  ·omega
  ·rw[hK'] at hl
   obtain ⟨u,u1,u2,u3⟩:=back_iter hl hk2
   push_cast (disch:=omega)[hρ,aBool]
   exact hR _ _ ⟨t3,_,htj3,pre q1,q2,.inr ⟨_,_,_,q3,hs,n2,k1,s1.act r,hn2,hkn,hLx,hT,.inr (.inr (.inl ⟨c,rfl,q,rr,u,rfl,hq3,by rw[hact];exact u1,by have:=XG u2;exact this.trans hs,u2,u3⟩))⟩⟩
 ·rw[if_neg hk2] at q2 q3 ⊢
  rcases hKR with ⟨c,hK'⟩|⟨c,_⟩
  ·have hk1:F1.kind=1:=hkind.trans c
   rw[hK'] at hl
   push_cast (disch:=omega)[hρ,aBool]
   cases hKK:K with
   | nil=>
    rw[hKK] at hl
    have u1:=back_root hl hk1
    exact hR _ _ ⟨t3,_,htj3,pre q1,q2,.inr ⟨_,_,_,q3,hs,n2,k1,s1.act r,hn2,hkn,hLx,hT,.inr (.inl ⟨c,hKK,by rw[hact,u1];show (1:Int)≠0;decide,by rw[hact,u1]⟩)⟩⟩
   | cons q rr=>
    rw[hKK] at hl
    have u1:=back_task hl hk1
    exact hR _ _ ⟨t3,_,htj3,pre q1,q2,.inr ⟨_,_,_,q3,hs,n2,k1,s1.act r,hn2,hkn,hLx,hT,.inl ⟨c,by rw[hKK];simp,by rw[hact,u1];exact hs,by rw[hact,u1,hKK];show s1.l.tail=_;rw[hl];rfl,by rw[hact,u1];exact e_pop _⟩⟩⟩
  ·omega
end
end Go.Proofs.YtncdnegdlkmicaaGreat.Sr
