/- Serial: the machine's small steps: the walks. -/
import Derived.Test.YtncdnegdlkmicaaGreatQSed
namespace Go.Proofs.YtncdnegdlkmicaaGreat
set_option linter.unusedVariables false
set_option linter.unusedSimpArgs false
open Go Go.Kx Go.Proofs
def Kp (σ σ':Kx.St):Prop:=∀(j:Nat) (r:Res),8 < j→σ[j]?=some r→σ'[j]?=some r
theorem Kp.refl (σ:Kx.St):Kp σ σ:=fun _ _ _ h=>h
theorem Kp.trans {a b c:Kx.St} (h:Kp a b) (k:Kp b c):Kp a c:=fun j r hj hr=>k j r hj (h j r hj hr)
theorem Kp.app (σ τ:Kx.St):Kp σ (σ++τ):=fun _ _ _ h=>Q7 h
theorem Kp.set (σ:Kx.St) {i:Nat} (hi:i≤8) (o:Res):Kp σ (σ.set i o):=fun _ _ hj h=>Q0 (by omega) h
theorem Kp.setLen (σ:Kx.St) (o:Res) {τ:Kx.St} (h:Kp τ σ) {j:Nat} (hj:τ.length≤j):Kp τ (σ.set j o):=fun i r hi hr=>Q0 (by have:=Qm hr;omega) (h i r hi hr)
section
variable {m:Int} {n w wm wo:Nat} {s:Sv}
theorem ev1:(evC m n w wm wo s)[1]?=some (.ms 0 0 0 n 1):=rfl
theorem ev2:(evC m n w wm wo s)[2]?=some (.ms 6 w 0 s.l.length 15):=rfl
theorem ev3:(evC m n w wm wo s)[3]?=some (.ref 3 0 0):=rfl
theorem ev4:(evC m n w wm wo s)[4]?=some (.sl s.marks.length (s.marks.flatMap aMk) (.id 7 wm 3)):=rfl
theorem ev5:(evC m n w wm wo s)[5]?=some (.v (.int .i64 s.serial)):=rfl
theorem ev6:(evC m n w wm wo s)[6]?=some (.v (.int .i64 s.status)):=rfl
end
section
variable {m:Int} {fs:List (List Ix)} {σ:Kx.St} {w:Nat} {s:Sv}
theorem Qu (h:MA m fs σ w s) (k a:Int) (hb:s.marks.length≤1000000):FnG Tryz.prog 61 [.ref 4 0 0,aInt k,aInt a] σ fun _ σ'=>MA m fs σ' w (s.mark k a)∧Kp σ σ':=by
 refine Qk Xr mixed rfl ?_
 simp only[Zh,aInt]
 obtain ⟨wm,wo,he,hm,ho⟩:=h.ev
 obtain ⟨cs,hc,hf⟩:=h.fr
 have hbl:fillA [AV.v (.int .i64 0),AV.v (.int .i64 0),AV.v (.int .i64 0)] [(0,1),(1,1)] [AV.v (.int .i64 k),AV.v (.int .i64 a)]=some (aMk (k,a)):=by simp[fillA,AV.cells,Value.cells,setAtA,aMk]
 have hac:(AV.agg (aMk (k,a))).cells=aMk (k,a):=rfl
 have hfl:=Qy QD s.marks
 push_cast (disch:=omega)[he,ev4,hbl]
 refine Qf (sz:=3) (by intro a ha;simp at ha;subst ha;rfl) (by simp) ?_
 push_cast (disch:=omega)[hac,List.append_nil]
 refine Z08 (m:=1) rfl rfl rfl rfl hfl (by omega) (by omega) hm ?_
 push_cast (disch:=omega)
 refine Q6 rfl rfl (Q0 (by decide) he) (by simp[evC]) ?_
 push_cast (disch:=omega)
 have hev:(evC m fs.length w wm wo s).set 4 (.sl (s.marks.length+1) (s.marks.flatMap aMk++aMk (k,a)) (.id 7 (wm+1) 3))=evC m fs.length w (wm+1) wo (s.mark k a):=by simp[evC,Sv.mark]
 rw[hev]
 have q:=Q0 (o:=Res.tail (wm+1)) (by decide:(7:Nat)≠4) he
 refine ⟨⟨Q0 (by decide) (Q0 (by decide) h.fz),Q0 (by decide) (Q0 (by decide) h.wd),Q0 (by decide) (Q0 (by decide) h.st),⟨wm+1,wo,Q4 q,Q0 (by decide) (Q4 hm),Q0 (by decide) (Q0 (by decide) ho)⟩,⟨cs,Q0 (by decide) (Q0 (by decide) hc),hf⟩⟩,?_⟩
 exact (Kp.set _ (by decide) _).trans (Kp.set _ (by decide) _)
theorem QN (h:MA m fs σ w s) (st why:Int):FnG Tryz.prog 38 [.ref 4 0 0,aInt st,aInt why] σ fun _ σ'=>MA m fs σ' w (s.stop st why)∧Kp σ σ':=by
 refine Qk Xp mixed rfl ?_
 simp only[Ze,aInt]
 obtain ⟨wm,wo,he,hm,ho⟩:=h.ev
 obtain ⟨cs,hc,hf⟩:=h.fr
 push_cast (disch:=omega)
 refine Q6 rfl rfl he (by simp[evC]) ?_
 push_cast (disch:=omega)
 refine Q6 rfl rfl (Q4 he) (by simp[evC]) ?_
 push_cast (disch:=omega)
 have hev:((evC m fs.length w wm wo s).set 6 (.v (.int .i64 st))).set 7 (.v (.int .i64 why))=evC m fs.length w wm wo (s.stop st why):=rfl
 rw[hev]
 refine ⟨⟨Q0 (by decide) (Q0 (by decide) h.fz),Q0 (by decide) (Q0 (by decide) h.wd),Q0 (by decide) (Q0 (by decide) h.st),⟨wm,wo,Q4 (Q4 he),Q0 (by decide) (Q0 (by decide) hm),Q0 (by decide) (Q0 (by decide) ho)⟩,⟨cs,Q0 (by decide) (Q0 (by decide) hc),hf⟩⟩,?_⟩
 exact (Kp.set _ (by decide) _).trans (Kp.set _ (by decide) _)
theorem X00 (h:MA m fs σ w s) {f:Sf} {r:List Sf} (hl:s.l=f::r) (hb:s.l.length≤1000000):FnG Tryz.prog 58 [.ref 4 0 0] σ fun a σ'=>a=.ref 6 w (r.length * 15)∧σ'=σ:=by
 refine Qk XT mixed rfl ?_
 simp only[ZH]
 obtain ⟨wm,wo,he,hm,ho⟩:=h.ev
 have hln:s.l.length=r.length+1:=by rw[hl];rfl
 have g2:(evC m fs.length w wm wo s)[2]?=some (.ms 6 w 0 (r.length+1) 15):=by rw[ev2,hln]
 have tn:((r.length:Int)+1 - 1).toNat=r.length:=by omega
 push_cast (disch:=omega)[he,g2,tn]
 exact trivial
theorem Yr (h:MA m fs σ w s) {f q:Sf} {r:List Sf} (hl:s.l=f::q::r) (hb:s.l.length≤1000000):FnG Tryz.prog 110 [.ref 4 0 0] σ fun a σ'=>a=.ref 6 w (r.length * 15)∧σ'=σ:=by
 refine Qk Z63 mixed rfl ?_
 simp only[Q65]
 obtain ⟨wm,wo,he,hm,ho⟩:=h.ev
 have hln:s.l.length=r.length+2:=by rw[hl];rfl
 have g2:(evC m fs.length w wm wo s)[2]?=some (.ms 6 w 0 (r.length+2) 15):=by rw[ev2,hln]
 have tn:((r.length:Int)+1+1 - 2).toNat=r.length:=by omega
 push_cast (disch:=omega)[he,g2,tn]
 exact trivial
theorem ev_push (f:Sf) {n wm wo:Nat}:(((evC m n w wm wo s).set 2 (.ms 6 (w+1) 0 (s.l.length+1) 15)).set 11 (.v (.int .i64 (IntKind.i64.wrap (s.frames+1))))).set 12 (.v (.int .i64 (max s.deepest ((s.l.length:Int)+1))))=evC m n (w+1) wm wo (s.push f):=by
 simp[evC,Sv.push]
theorem cells15 (f:Sf) (t:List AV):cellsA (some 15) (aSf f++t)=some (.agg (aSf f)):=by rw[Z07 _ _ (by simp[Q96])];rfl
theorem cells15' (f:Sf):cellsA (some 15) (aSf f)=some (.agg (aSf f)):=rfl
theorem cells8a (rs:List Int) (t:List AV):cellsA (some 8) (aRg rs++t)=some (.agg (aRg rs)):=by rw[Z07 _ _ (by simp[Q62])];rfl
theorem X75 (i w o n:Nat):(AV.ms i w o n 15).exact=true:=rfl
theorem ex_Sf (f:Sf):(AV.agg (aSf f)).exact=true:=rfl
set_option maxHeartbeats 4000000 in
theorem X0 (h:MA m fs σ w s) (f:Sf) (hb:s.l.length≤1000000):FnG Tryz.prog 36 [.ref 4 0 0,.agg (aSf f)] σ fun _ σ'=>MA m fs σ' (w+1) (s.push f)∧Kp σ σ':=by
 refine Qk Zd mixed rfl ?_
 simp only[Q20]
 have hac:(AV.agg (aSf f)).cells=aSf f:=rfl
 have h8:=h.len
 refine Q1 (fun ε σ1=>(ε 0=.ref 4 0 0∧ε 3=.ref σ.length 0 0)∧σ1=σ++[.obj 0 (aSf f)]) ?_ ?_
 ·intro N X R hN
  push_cast (disch:=omega)
  refine Qd ?_
  push_cast (disch:=omega)[hac]
  exact hN _ _ (by push_cast (disch:=omega))
 rintro ε σ1 ⟨hρ,rfl⟩
 have hb1:(σ++[Res.obj 0 (aSf f)])[σ.length]?=some (.obj 0 (aSf f)):=Qc _ _
 have hk1:Kp σ (σ++[Res.obj 0 (aSf f)]):=Kp.app _ _
 have h1:=h.app (τ:=[Res.obj 0 (aSf f)])
 generalize σ++[Res.obj 0 (aSf f)]=σ1 at hb1 h1 hk1
 generalize σ.length=i0 at hρ hb1 h8
 obtain ⟨wm,wo,he,hm,ho⟩:=h1.ev
 obtain ⟨cs,hc,hf⟩:=h1.fr
 have hfp:=hf.push f
 refine Q1 (fun ε σ2=>ε 0=.ref 4 0 0∧σ2=(σ1.set 6 (.obj (w+1) (cs.take (s.l.length * 15)++aSf f))).set 4 (.obj 0 ((evC m fs.length w wm wo s).set 2 (.ms 6 (w+1) 0 (s.l.length+1) 15)))) ?_ ?_
 ·intro N X R hN
  push_cast (disch:=omega)[hρ,he,ev2,hb1,cells15']
  refine Qf (sz:=15) (by intro a ha;simp at ha;subst ha;rfl) (by simp) ?_
  push_cast (disch:=omega)[hρ,hac,List.append_nil]
  refine ⟨Q8 (by push_cast (disch:=omega)[hρ,he,ev2,X75]),?_⟩
  refine ZF (m:=1) rfl rfl rfl (aSf_one f) hf.1 (by omega) (by omega) hc ?_
  push_cast (disch:=omega)[hρ]
  refine Q6 rfl rfl (Q0 (by decide) he) (by simp[evC]) ?_
  push_cast (disch:=omega)
  exact hN _ _ ⟨by push_cast (disch:=omega)[hρ],rfl⟩
 clear hρ ε
 rintro ε σ2 ⟨hρ,rfl⟩
 have k4:=Q4 (o:=Res.obj 0 ((evC m fs.length w wm wo s).set 2 (.ms 6 (w+1) 0 (s.l.length+1) 15))) (Q0 (o:=Res.obj (w+1) (cs.take (s.l.length * 15)++aSf f)) (by decide:(6:Nat)≠4) he)
 have k0:=Q0 (o:=Res.obj 0 ((evC m fs.length w wm wo s).set 2 (.ms 6 (w+1) 0 (s.l.length+1) 15))) (by decide:(4:Nat)≠0) (Q0 (o:=Res.obj (w+1) (cs.take (s.l.length * 15)++aSf f)) (by decide:(6:Nat)≠0) h1.fz)
 have k2:=Q0 (o:=Res.obj 0 ((evC m fs.length w wm wo s).set 2 (.ms 6 (w+1) 0 (s.l.length+1) 15))) (by decide:(4:Nat)≠2) (Q0 (o:=Res.obj (w+1) (cs.take (s.l.length * 15)++aSf f)) (by decide:(6:Nat)≠2) h1.wd)
 have k3:=Q0 (o:=Res.obj 0 ((evC m fs.length w wm wo s).set 2 (.ms 6 (w+1) 0 (s.l.length+1) 15))) (by decide:(4:Nat)≠3) (Q0 (o:=Res.obj (w+1) (cs.take (s.l.length * 15)++aSf f)) (by decide:(6:Nat)≠3) h1.st)
 have k6:=Q0 (o:=Res.obj 0 ((evC m fs.length w wm wo s).set 2 (.ms 6 (w+1) 0 (s.l.length+1) 15))) (by decide:(4:Nat)≠6) (Q4 (o:=Res.obj (w+1) (cs.take (s.l.length * 15)++aSf f)) hc)
 have k7:=Q0 (o:=Res.obj 0 ((evC m fs.length w wm wo s).set 2 (.ms 6 (w+1) 0 (s.l.length+1) 15))) (by decide:(4:Nat)≠7) (Q0 (o:=Res.obj (w+1) (cs.take (s.l.length * 15)++aSf f)) (by decide:(6:Nat)≠7) hm)
 have k8:=Q0 (o:=Res.obj 0 ((evC m fs.length w wm wo s).set 2 (.ms 6 (w+1) 0 (s.l.length+1) 15))) (by decide:(4:Nat)≠8) (Q0 (o:=Res.obj (w+1) (cs.take (s.l.length * 15)++aSf f)) (by decide:(6:Nat)≠8) ho)
 have kp:Kp σ ((σ1.set 6 (.obj (w+1) (cs.take (s.l.length * 15)++aSf f))).set 4 (.obj 0 ((evC m fs.length w wm wo s).set 2 (.ms 6 (w+1) 0 (s.l.length+1) 15)))):=(hk1.trans (Kp.set _ (by decide) _)).trans (Kp.set _ (by decide) _)
 generalize (σ1.set 6 (.obj (w+1) (cs.take (s.l.length * 15)++aSf f))).set 4 (.obj 0 ((evC m fs.length w wm wo s).set 2 (.ms 6 (w+1) 0 (s.l.length+1) 15)))=σ2 at k0 k2 k3 k4 k6 k7 k8 kp
 have e11:((evC m fs.length w wm wo s).set 2 (.ms 6 (w+1) 0 (s.l.length+1) 15))[11]?=some (.v (.int .i64 s.frames)):=rfl
 have e12:(((evC m fs.length w wm wo s).set 2 (.ms 6 (w+1) 0 (s.l.length+1) 15)).set 11 (.v (.int .i64 (IntKind.i64.wrap (s.frames+1)))))[12]?=some (.v (.int .i64 s.deepest)):=rfl
 have e2:(((evC m fs.length w wm wo s).set 2 (.ms 6 (w+1) 0 (s.l.length+1) 15)).set 11 (.v (.int .i64 (IntKind.i64.wrap (s.frames+1)))))[2]?=some (.ms 6 (w+1) 0 (s.l.length+1) 15):=rfl
 refine Q1 (fun ε σ3=>ε 0=.ref 4 0 0∧σ3=σ2.set 4 (.obj 0 (((evC m fs.length w wm wo s).set 2 (.ms 6 (w+1) 0 (s.l.length+1) 15)).set 11 (.v (.int .i64 (IntKind.i64.wrap (s.frames+1))))))) ?_ ?_
 ·intro N X R hN
  push_cast (disch:=omega)[hρ,k4,e11]
  refine Q6 rfl rfl k4 (by simp[evC]) ?_
  push_cast (disch:=omega)
  exact hN _ _ ⟨by push_cast (disch:=omega)[hρ],rfl⟩
 clear hρ ε
 rintro ε σ3 ⟨hρ,rfl⟩
 have k4':=Q4 (o:=Res.obj 0 (((evC m fs.length w wm wo s).set 2 (.ms 6 (w+1) 0 (s.l.length+1) 15)).set 11 (.v (.int .i64 (IntKind.i64.wrap (s.frames+1)))))) k4
 push_cast (disch:=omega)[hρ,k4',e12,e2]
 refine Q6 rfl rfl k4' (by simp[evC]) ?_
 push_cast (disch:=omega)
 rw[ev_push f]
 refine ⟨⟨Q0 (by decide) (Q0 (by decide) k0),Q0 (by decide) (Q0 (by decide) k2),Q0 (by decide) (Q0 (by decide) k3),⟨wm,wo,Q4 k4',Q0 (by decide) (Q0 (by decide) k7),Q0 (by decide) (Q0 (by decide) k8)⟩,⟨_,Q0 (by decide) (Q0 (by decide) k6),hfp⟩⟩,?_⟩
 exact (kp.trans (Kp.set _ (by decide) _)).trans (Kp.set _ (by decide) _)
set_option maxHeartbeats 4000000 in
theorem Z55 (h:MA m fs σ w s) {f:Sf} {r:List Sf} (hl:s.l=f::r) (hb:s.l.length≤1000000):FnG Tryz.prog 95 [.ref 4 0 0] σ fun a σ'=>a=.agg (aSf f)∧MA m fs σ' w s.pop∧Kp σ σ':=by
 refine Qk XW mixed rfl ?_
 simp only[ZK]
 have hln:s.l.length=r.length+1:=by rw[hl];rfl
 have hset:∀g:Sf,setAtA (aSf ⟨0,0,0,z8,false,0,0,0⟩) 0 (aSf g)=aSf g:=fun g=>rfl
 have h8:=h.len
 refine Q1 (fun ε σ1=>(ε 0=.ref 4 0 0∧ε 2=.ref σ.length 0 0)∧σ1=σ++[.obj 0 (aSf ⟨0,0,0,z8,false,0,0,0⟩)]) ?_ ?_
 ·intro N X R hN
  push_cast (disch:=omega)
  refine Qb ?_
  push_cast (disch:=omega)
  exact hN _ _ ⟨by push_cast (disch:=omega),rfl⟩
 rintro ε σ1 ⟨hρ,rfl⟩
 have hb1:(σ++[Res.obj 0 (aSf ⟨0,0,0,z8,false,0,0,0⟩)])[σ.length]?=some (.obj 0 (aSf ⟨0,0,0,z8,false,0,0,0⟩)):=Qc _ _
 have hk1:Kp σ (σ++[Res.obj 0 (aSf ⟨0,0,0,z8,false,0,0,0⟩)]):=Kp.app _ _
 have h1:=h.app (τ:=[Res.obj 0 (aSf ⟨0,0,0,z8,false,0,0,0⟩)])
 have hL:σ.length < (σ++[Res.obj 0 (aSf ⟨0,0,0,z8,false,0,0,0⟩)]).length:=by simp
 generalize σ++[Res.obj 0 (aSf ⟨0,0,0,z8,false,0,0,0⟩)]=σ1 at hb1 h1 hk1 hL
 obtain ⟨wm,wo,he,hm,ho⟩:=h1.ev
 obtain ⟨cs,hc,hf⟩:=h1.fr
 rw[hl] at hf
 have g2:(evC m fs.length w wm wo s)[2]?=some (.ms 6 w 0 (r.length+1) 15):=by rw[ev2,hln]
 have tn:((r.length:Int)+1 - 1).toNat=r.length:=by omega
 obtain ⟨t,htd⟩:=hf.drop (QV f r)
 refine Q1 (fun ε σ2=>(ε 0=.ref 4 0 0∧ε 2=.ref σ.length 0 0∧ε 3=.ref σ1.length 0 0)∧σ2=σ1++[.obj 0 (aSf f)]) ?_ ?_
 ·intro N X R hN
  push_cast (disch:=omega)[hρ,he,g2,tn,hc,htd,cells15]
  refine Qb ?_
  push_cast (disch:=omega)
  refine ⟨Q8 (by push_cast (disch:=omega)[hρ,Q7 hc,htd,cells15,ex_Sf]),Q8 (by push_cast (disch:=omega)[hρ,Q7 he,g2,X75]),Q8 (by push_cast (disch:=omega)[hρ,Q7 he,g2,X75]),?_⟩
  refine Q5 (cs:=aSf ⟨0,0,0,z8,false,0,0,0⟩) rfl rfl (Qc _ _) (by decide) ?_
  rw[hset,Z09]
  push_cast (disch:=omega)
  exact hN _ _ ⟨by push_cast (disch:=omega)[hρ],rfl⟩
 clear hρ ε
 rintro ε σ2 ⟨hρ,rfl⟩
 have hb2:(σ1++[Res.obj 0 (aSf f)])[σ1.length]?=some (.obj 0 (aSf f)):=Qc _ _
 have hb1':(σ1++[Res.obj 0 (aSf f)])[σ.length]?=some (.obj 0 (aSf ⟨0,0,0,z8,false,0,0,0⟩)):=Q7 hb1
 have h2:=h1.app (τ:=[Res.obj 0 (aSf f)])
 have hk2:=hk1.trans (Kp.app σ1 [Res.obj 0 (aSf f)])
 have he2:(σ1++[Res.obj 0 (aSf f)])[4]?=some (.obj 0 (evC m fs.length w wm wo s)):=Q7 he
 have hm2:(σ1++[Res.obj 0 (aSf f)])[7]?=some (.tail wm):=Q7 hm
 have ho2:(σ1++[Res.obj 0 (aSf f)])[8]?=some (.tail wo):=Q7 ho
 have hc2:(σ1++[Res.obj 0 (aSf f)])[6]?=some (.obj w cs):=Q7 hc
 generalize σ1++[Res.obj 0 (aSf f)]=σ2 at hb1' hb2 h2 hk2 he2 hm2 ho2 hc2
 have hev:(evC m fs.length w wm wo s).set 2 (.ms 6 w 0 r.length 15)=evC m fs.length w wm wo s.pop:=by simp[evC,Sv.pop,hl]
 have hpl:s.pop.l=r:=by simp[Sv.pop,hl]
 refine Q1 (fun ε σ3=>(ε 2=.ref σ.length 0 0∧ε 3=.ref σ1.length 0 0)∧σ3=σ2.set 4 (.obj 0 (evC m fs.length w wm wo s.pop))) ?_ ?_
 ·intro N X R hN
  push_cast (disch:=omega)[hρ,he2,g2,tn]
  refine Q6 rfl rfl he2 (by simp[evC]) ?_
  rw[hev]
  push_cast (disch:=omega)
  exact hN _ _ ⟨by push_cast (disch:=omega)[hρ],rfl⟩
 clear hρ ε
 rintro ε σ3 ⟨hρ,rfl⟩
 have j1:(σ2.set 4 (.obj 0 (evC m fs.length w wm wo s.pop)))[σ1.length]?=some (.obj 0 (aSf f)):=Q0 (by omega) hb2
 have j2:(σ2.set 4 (.obj 0 (evC m fs.length w wm wo s.pop)))[σ.length]?=some (.obj 0 (aSf ⟨0,0,0,z8,false,0,0,0⟩)):=Q0 (by omega) hb1'
 have h3:MA m fs (σ2.set 4 (.obj 0 (evC m fs.length w wm wo s.pop))) w s.pop:=
  ⟨Q0 (by decide) h2.fz,Q0 (by decide) h2.wd,Q0 (by decide) h2.st,⟨wm,wo,Q4 he2,Q0 (by decide) hm2,Q0 (by decide) ho2⟩,⟨cs,Q0 (by decide) hc2,by rw[hpl];exact hf.pop⟩⟩
 have hk3:=hk2.trans (Kp.set σ2 (by decide:4≤8) (.obj 0 (evC m fs.length w wm wo s.pop)))
 generalize σ2.set 4 (.obj 0 (evC m fs.length w wm wo s.pop))=σ3 at j1 j2 h3 hk3
 push_cast (disch:=omega)[hρ,j1,cells15']
 refine Q5 (Q96 f) rfl j2 (by simp[aSf]) ?_
 rw[hset]
 have j2':=Q4 (o:=Res.obj 0 (aSf f)) j2
 push_cast (disch:=omega)[hρ,j2',cells15']
 exact ⟨h3.set h8 _,Kp.setLen _ _ hk3 (Nat.le_refl _)⟩
end
end Go.Proofs.YtncdnegdlkmicaaGreat
