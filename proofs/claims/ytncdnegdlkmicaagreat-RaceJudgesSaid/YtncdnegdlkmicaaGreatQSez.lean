/- Serial: the machine's small steps: the walks (Sef Seg Seh Sei) -/
import Derived.Test.YtncdnegdlkmicaaGreatQSee
namespace Go.Proofs.YtncdnegdlkmicaaGreat
set_option linter.unusedVariables false
set_option linter.unusedSimpArgs false
open Go Go.Kx Go.Proofs
section
variable {m:Int} {fs:List (List Ix)} {σ:Kx.St} {w:Nat} {s:Sv}
theorem MA.fr1 (h:MA m fs σ w s) {f:Sf} {r:List Sf} (hl:s.l=f::r):∃cs,σ[6]?=some (.obj w cs)∧FrAt cs (f::r):=by
 obtain ⟨cs,h1,h2⟩:=h.fr
 rw[hl] at h2
 exact ⟨cs,h1,h2⟩
theorem MA.put (h:MA m fs σ w s) {cs:List AV} {l:List Sf} (hf:FrAt cs l) (hn:l.length=s.l.length):MA m fs (σ.set 6 (.obj w cs)) w { s with l:=l }:=by
 obtain ⟨wm,wo,he,hm,ho⟩:=h.ev
 obtain ⟨cs0,hc,hf0⟩:=h.fr
 have hev:evC m fs.length w wm wo s=evC m fs.length w wm wo { s with l:=l }:=by simp[evC,hn]
 exact ⟨Q0 (by decide) h.fz,Q0 (by decide) h.wd,Q0 (by decide) h.st,⟨wm,wo,by rw[←hev];exact Q0 (by decide) he,Q0 (by decide) hm,Q0 (by decide) ho⟩,⟨cs,Q4 hc,hf⟩⟩
theorem MA.st1 (h:MA m fs σ w s) {f:Sf} {r:List Sf} (hl:s.l=f::r) {cs:List AV} (hf:FrAt cs (f::r)) {j:Nat} (hj:j < 15) {x:AV} {g:Sf} (hx:(aSf f).set j x=aSf g):
  MA m fs (σ.set 6 (.obj w (cs.set (r.length * 15+j) x))) w { s with l:=g::r }∧r.length * 15+j < cs.length:=by
 have h1:=hf.1
 simp only[List.length_cons] at h1
 exact ⟨h.put (hf.set (QV f r) hj hx (top_set f g r)) (by rw[hl];rfl),by omega⟩
theorem MA.stR (h:MA m fs σ w s) {f:Sf} {r:List Sf} (hl:s.l=f::r) {cs:List AV} (hf:FrAt cs (f::r)) (rs:List Int):
  MA m fs (σ.set 6 (.obj w (setAtA cs (r.length * 15+3) (aRg rs)))) w { s with l:={ f with regs:=rs }::r }∧r.length * 15+3+8≤cs.length:=by
 have h1:=hf.1
 simp only[List.length_cons] at h1
 exact ⟨h.put (hf.setR (QV f r) (top_set f _ r)) (by rw[hl];rfl),by omega⟩
theorem MA.stR2 (h:MA m fs σ w s) {f q:Sf} {r:List Sf} (hl:s.l=f::q::r) {cs:List AV} (hf:FrAt cs (f::q::r)) (rs:List Int):
  MA m fs (σ.set 6 (.obj w (setAtA cs (r.length * 15+3) (aRg rs)))) w { s with l:=f::{ q with regs:=rs }::r }∧r.length * 15+3+8≤cs.length:=by
 have h1:=hf.1
 simp only[List.length_cons] at h1
 exact ⟨h.put (hf.setR (sec_at f q r) (sec_set f q _ r)) (by rw[hl];rfl),by omega⟩
theorem MA.words (h:MA m fs σ w s) {d:List Int} (hn:d.length=s.data.length):MA m fs (σ.set 2 (.obj 0 (d.map aInt))) w { s with data:=d }:=by
 obtain ⟨wm,wo,he,hm,ho⟩:=h.ev
 obtain ⟨cs,hc,hf⟩:=h.fr
 exact ⟨Q0 (by decide) h.fz,Q4 h.wd,by rw[show ({ s with data:=d }:Sv).data.length=s.data.length from hn];exact Q0 (by decide) h.st,⟨wm,wo,Q0 (by decide) he,Q0 (by decide) hm,Q0 (by decide) ho⟩,⟨cs,Q0 (by decide) hc,hf⟩⟩
theorem fill_it (fn i:Int) (rs:List Int):fillA [AV.v (.int .i64 0),AV.v (.int .i64 0),AV.v (.int .i64 0),AV.v (.int .i64 0),AV.v (.int .i64 0),AV.v (.int .i64 0),AV.v (.int .i64 0),AV.v (.int .i64 0),AV.v (.int .i64 0),AV.v (.int .i64 0),AV.v (.int .i64 0),AV.v (.bool false),AV.v (.int .i64 0),AV.v (.int .i64 0),AV.v (.int .i64 0)]
  [(0,1),(1,1),(3,8),(12,1)] [.v (.int .i64 2),.v (.int .i64 fn),.agg (aRg rs),.v (.int .i64 i)]=some (aSf ⟨2,fn,0,rs,false,i,0,0⟩):=rfl
set_option maxHeartbeats 4000000 in
theorem Z82 (h:MA m fs σ w s) {f:Sf} {r:List Sf} (hl:s.l=f::r) (hb:s.l.length≤1000000) (hb2:s.marks.length≤1000000):FnG Tryz.prog 96 [.ref 4 0 0] σ fun _ σ'=>MA m fs σ' (w+1) s.iterate∧Kp σ σ':=by
 refine Qk Z34 mixed rfl ?_
 simp only[Q55]
 obtain ⟨cs,hc,hf⟩:=h.fr1 hl
 have g12:=hf.get (QV f r) (j:=12) (x:=.v (.int .i64 f.index)) rfl
 refine Q1 (fun ε σ1=>(ε 0=.ref 4 0 0∧ε 2=.ref 6 w (r.length * 15))∧σ1=σ) ?_ ?_
 ·intro N X R hN
  push_cast (disch:=omega)
  refine Q2 (X00 h hl hb) ?_
  rintro a σ' ⟨rfl,h'⟩
  push_cast (disch:=omega)
  exact hN _ _ ⟨by push_cast (disch:=omega),h'⟩
 rintro ε σ1 ⟨hρ,e1⟩
 rw[e1]
 clear e1 σ1
 refine Q1 (fun ε σ1=>(ε 0=.ref 4 0 0∧ε 2=.ref 6 w (r.length * 15)∧ε 3=.v (.int .i64 f.index))∧σ1=σ) ?_ ?_
 ·intro N X R hN
  push_cast (disch:=omega)[hρ,hc,g12]
  exact hN _ _ ⟨by push_cast (disch:=omega)[hρ],rfl⟩
 clear hρ ε
 rintro ε σ1 ⟨hρ,e1⟩
 rw[e1]
 clear e1 σ1
 obtain ⟨h1,hlt⟩:=h.st1 hl hf (j:=12) (by decide) (x:=.v (.int .i64 (IntKind.i64.wrap (f.index+1)))) (g:={ f with index:=IntKind.i64.wrap (f.index+1) }) rfl
 have k1:Kp σ (σ.set 6 (.obj w (cs.set (r.length * 15+12) (.v (.int .i64 (IntKind.i64.wrap (f.index+1))))))):=Kp.set _ (by decide) _
 refine Q1 (fun ε σ1=>(ε 0=.ref 4 0 0∧ε 2=.ref 6 w (r.length * 15)∧ε 3=.v (.int .i64 f.index))∧σ1=σ.set 6 (.obj w (cs.set (r.length * 15+12) (.v (.int .i64 (IntKind.i64.wrap (f.index+1))))))) ?_ ?_
 ·intro N X R hN
  push_cast (disch:=omega)[hρ,hc,g12]
  refine Q6 rfl rfl hc hlt ?_
  push_cast (disch:=omega)
  exact hN _ _ ⟨by push_cast (disch:=omega)[hρ],rfl⟩
 clear hρ ε
 rintro ε σ1 ⟨hρ,rfl⟩
 generalize σ.set 6 (.obj w (cs.set (r.length * 15+12) (.v (.int .i64 (IntKind.i64.wrap (f.index+1))))))=σ1 at h1 k1
 refine Q1 (fun ε σ2=>(ε 0=.ref 4 0 0∧ε 2=.ref 6 w (r.length * 15)∧ε 3=.v (.int .i64 f.index))∧MA m fs σ2 w (({ s with l:={ f with index:=IntKind.i64.wrap (f.index+1) }::r }:Sv).mark 9 f.index)∧Kp σ σ2) ?_ ?_
 ·intro N X R hN
  push_cast (disch:=omega)[hρ]
  refine Q2 (Qu h1 9 f.index hb2) ?_
  rintro a σ' ⟨h2,k2⟩
  push_cast (disch:=omega)
  exact hN _ _ ⟨by push_cast (disch:=omega)[hρ],h2,k1.trans k2⟩
 clear hρ ε h1 k1
 rintro ε σ2 ⟨hρ,h2,k2⟩
 obtain ⟨cs2,hc2,hf2⟩:=h2.fr1 rfl
 have q1:=hf2.get (QV _ r) (j:=1) (x:=.v (.int .i64 f.fn)) rfl
 obtain ⟨t,hr⟩:=hf2.regs (QV _ r)
 push_cast (disch:=omega)[hρ,hc2,q1,hr,cells8a,fill_it]
 refine Q2 (X0 h2 ⟨2,f.fn,0,f.regs,false,f.index,0,0⟩ (by rw[hl] at hb;exact hb)) ?_
 rintro a σ' ⟨h3,k3⟩
 push_cast (disch:=omega)
 have e:s.iterate=(({ s with l:={ f with index:=IntKind.i64.wrap (f.index+1) }::r }:Sv).mark 9 f.index).push ⟨2,f.fn,0,f.regs,false,f.index,0,0⟩:=by
  simp[Sv.iterate,Sv.setTop,Sv.top,hl]
 rw[e]
 exact ⟨h3,k2.trans k3⟩
set_option maxHeartbeats 4000000 in
theorem X1 (h:MA m fs σ w s) {f:Sf} {r:List Sf} (hl:s.l=f::r) (hq:f.stage=0→∃q r',r=q::r') (hb:s.l.length≤1000000):
  FnG Tryz.prog 94 [.ref 4 0 0,.ref 6 w (r.length * 15)] σ fun _ σ'=>MA m fs σ' w s.keep∧Kp σ σ':=by
 refine Qk Xx mixed rfl ?_
 simp only[Zn]
 obtain ⟨cs,hc,hf⟩:=h.fr1 hl
 have g13:=hf.get (QV f r) (j:=13) (x:=.v (.int .i64 f.stage)) rfl
 have htop:s.top=f:=by simp[Sv.top,hl]
 by_cases c:f.stage=0
 ·obtain ⟨q,r',hqr⟩:=hq c
  obtain ⟨t,hr⟩:=hf.regs (QV f _)
  have hl':s.l=f::q::r':=by rw[hl,hqr]
  obtain ⟨h1,hlt⟩:=h.stR2 hl' (by rw[←hqr];exact hf) f.regs
  have ek:s.keep={ s with l:=f::{ q with regs:=f.regs }::r' }:=by
   unfold Sv.keep Sv.set2
   rw[htop,if_pos c,hl']
  rw[c] at g13
  push_cast (disch:=omega)[hc,g13,hr,cells8a]
  refine Q2 (Yr h hl' hb) ?_
  rintro a σ' ⟨rfl,e1⟩
  rw[e1]
  push_cast (disch:=omega)
  refine ⟨Q8 (by push_cast (disch:=omega)[hc,hr,cells8a,ex_Rg]),?_⟩
  refine Q5 (Q62 _) rfl hc hlt ?_
  push_cast (disch:=omega)
  rw[ek]
  exact ⟨h1,Kp.set _ (by decide) _⟩
 ·have ek:s.keep=s:=by
   unfold Sv.keep
   rw[htop,if_neg c]
  rw[ek]
  push_cast (disch:=omega)[hc,g13,c]
  exact ⟨h,Kp.refl _⟩
theorem askD1 {d:List Int} {e:Ef} (h:e.k=1):askD d e=askD d ⟨1,e.at_,0,0,0⟩:=by simp[askD,h]
theorem askD2 {d:List Int} {e:Ef} (h:e.k=2):askD d e=askD d ⟨2,e.at_,e.v,0,0⟩:=by simp[askD,h]
theorem askD3 {d:List Int} {e:Ef} (h:e.k=3):askD d e=askD d ⟨3,e.at_,e.v,0,0⟩:=by simp[askD,h]
theorem askD4 {d:List Int} {e:Ef} (h:e.k=4):askD d e=askD d ⟨4,e.at_,e.v,e.o,0⟩:=by simp[askD,h]
theorem cells8' (rs:List Int):cellsA (some 8) (aRg rs)=some (.agg (aRg rs)):=rfl
theorem Kp.at {a b:Kx.St} (h:Kp a b) {j:Nat} {r:Res} (hj:8 < j) (hr:a[j]?=some r):b[j]?=some r:=h j r hj hr
set_option maxHeartbeats 8000000 in
theorem eval_ask_a (h:MA m fs σ w s) {f:Sf} {r:List Sf} (hl:s.l=f::r) (pc:Int) (rs:List Int) (e:Ef) (hrs:rs.length=8) (hk:1≤e.k∧e.k≤4) (hb2:s.marks.length≤1000000):
  FnG Tryz.prog 63 [.ref 4 0 0,.ref 6 w (r.length * 15),aInt pc,.agg (aRg rs),.agg (aEf e)] σ fun _ σ'=>MA m fs σ' w (s.ask pc rs e)∧Kp σ σ':=by
 refine Qk XU mixed rfl ?_
 simp only[ZI,aInt]
 have hae:(AV.agg (aEf e)).cells=aEf e:=rfl
 have har:(AV.agg (aRg rs)).cells=aRg rs:=rfl
 have g0:(aEf e)[0]?=some (.v (.int .i64 e.k)):=rfl
 have g1:(aEf e)[1]?=some (.v (.int .i64 e.at_)):=rfl
 have g2:(aEf e)[2]?=some (.v (.int .i64 e.v)):=rfl
 have g3:(aEf e)[3]?=some (.v (.int .i64 e.o)):=rfl
 have h8:=h.len
 refine Q1 (fun ε σ1=>(ε 0=.ref 4 0 0∧ε 1=.ref 6 w (r.length * 15)∧ε 2=.v (.int .i64 pc)∧ε 8=.ref σ.length 0 0∧ε 9=.ref (σ.length+1) 0 0)∧σ1=σ++[.obj 0 (aRg rs)]++[.obj 0 (aEf e)]) ?_ ?_
 ·intro N X R hN
  push_cast (disch:=omega)
  refine Qd ?_
  push_cast (disch:=omega)[har]
  refine Qd ?_
  push_cast (disch:=omega)[hae]
  exact hN _ _ ⟨by push_cast (disch:=omega)[List.length_append],rfl⟩
 rintro ε σ1 ⟨hρ,rfl⟩
 have hB8:(σ++[Res.obj 0 (aRg rs)]++[Res.obj 0 (aEf e)])[σ.length]?=some (.obj 0 (aRg rs)):=Q7 (Qc _ _)
 have hB9:(σ++[Res.obj 0 (aRg rs)]++[Res.obj 0 (aEf e)])[σ.length+1]?=some (.obj 0 (aEf e)):=by
  simp
 have hk1:Kp σ (σ++[Res.obj 0 (aRg rs)]++[Res.obj 0 (aEf e)]):=(Kp.app _ _).trans (Kp.app _ _)
 have h1:=(h.app (τ:=[Res.obj 0 (aRg rs)])).app (τ:=[Res.obj 0 (aEf e)])
 have h9:8 < σ.length+1:=by omega
 generalize σ++[Res.obj 0 (aRg rs)]++[Res.obj 0 (aEf e)]=σ1 at hB8 hB9 h1 hk1
 generalize σ.length+1=i9 at hρ hB9 h9
 generalize σ.length=i8 at hρ hB8 h8
 refine Q1 (fun ε σ2=>(ε 0=.ref 4 0 0∧ε 1=.ref 6 w (r.length * 15)∧ε 2=.v (.int .i64 pc)∧ε 8=.ref i8 0 0∧ε 9=.ref i9 0 0∧ε 10=.v (.int .i64 0))∧σ2=σ1) ?_ ?_
 ·intro N X R hN
  push_cast (disch:=omega)
  exact hN _ _ ⟨by push_cast (disch:=omega)[hρ],rfl⟩
 clear hρ ε
 rintro ε σ2 ⟨hρ,e2⟩
 rw[e2]
 clear e2 σ2
 refine Q1 (fun ε σ2=>(ε 0=.ref 4 0 0∧ε 1=.ref 6 w (r.length * 15)∧ε 2=.v (.int .i64 pc)∧ε 8=.ref i8 0 0∧ε 9=.ref i9 0 0∧ε 10=.v (.int .i64 0))∧σ2=σ1) ?_ ?_
 ·intro N X R hN
  push_cast (disch:=omega)
  exact hN _ _ ⟨by push_cast (disch:=omega)[hρ],rfl⟩
 clear hρ ε
 rintro ε σ2 ⟨hρ,e2⟩
 rw[e2]
 clear e2 σ2
 refine Q1 (fun ε σ2=>(ε 0=.ref 4 0 0∧ε 1=.ref 6 w (r.length * 15)∧ε 2=.v (.int .i64 pc)∧ε 8=.ref i8 0 0∧ε 9=.ref i9 0 0∧ε 10=.v (.int .i64 0)∧ε 12=.v (.int .i64 2))∧σ2=σ1) ?_ ?_
 ·intro N X R hN
  push_cast (disch:=omega)
  exact hN _ _ ⟨by push_cast (disch:=omega)[hρ],rfl⟩
 clear hρ ε
 rintro ε σ2 ⟨hρ,e2⟩
 rw[e2]
 clear e2 σ2
 refine Q1 (fun ε σ2=>(ε 0=.ref 4 0 0∧ε 1=.ref 6 w (r.length * 15)∧ε 2=.v (.int .i64 pc)∧ε 8=.ref i8 0 0∧ε 9=.ref i9 0 0∧ε 10=.v (.int .i64 (askD s.data e).1)∧ε 11=.v (.bool (askD s.data e).2.1)∧ε 12=.v (.int .i64 (if e.k=1 then 1 else 2))) ∧
   MA m fs σ2 w { s with data:=(askD s.data e).2.2 }∧Kp σ1 σ2) ?_ ?_
 ·intro N X R hN
  obtain ⟨wm,wo,he,hm,ho⟩:=h1.ev
  by_cases c1:e.k=1
  ·rw[askD1 c1,if_pos c1] at hN
   have ed:(askD s.data ⟨1,e.at_,0,0,0⟩).2.2=s.data:=by unfold askD;split;rfl;rfl
   push_cast (disch:=omega)[hρ,hB9,he,ev3,g0,g1,c1]
   refine Q2 (store_Load_a h1.st h1.wd e.at_) ?_
   rintro a σ' ⟨rfl,e1⟩
   rw[e1]
   push_cast (disch:=omega)[aInt,aBool]
   exact hN _ _ ⟨by push_cast (disch:=omega)[hρ],by rw[ed];exact h1,Kp.refl _⟩
  by_cases c2:e.k=2
  ·rw[askD2 c2,if_neg c1] at hN
   have ez:(askD s.data ⟨2,e.at_,e.v,0,0⟩).1=0:=by unfold askD;split;rfl;rfl
   push_cast (disch:=omega)[hρ,hB9,he,ev3,g0,g1,g2,c1,c2]
   refine Q2 (XC h1.st h1.wd e.at_ e.v) ?_
   rintro a σ' ⟨rfl,e1⟩
   rw[e1]
   push_cast (disch:=omega)[aInt,aBool]
   exact hN _ _ ⟨by push_cast (disch:=omega)[hρ,ez],h1.words (X26 _ _),Kp.set _ (by decide) _⟩
  by_cases c3:e.k=3
  ·rw[askD3 c3,if_neg c1] at hN
   push_cast (disch:=omega)[hρ,hB9,he,ev3,g0,g1,g2,c1,c2,c3]
   refine Q2 (store_Add_a h1.st h1.wd e.at_ e.v) ?_
   rintro a σ' ⟨rfl,e1⟩
   rw[e1]
   push_cast (disch:=omega)[aInt,aBool]
   exact hN _ _ ⟨by push_cast (disch:=omega)[hρ],h1.words (X26 _ _),Kp.set _ (by decide) _⟩
  have c4:e.k=4:=by omega
  rw[askD4 c4,if_neg c1] at hN
  push_cast (disch:=omega)[hρ,hB9,he,ev3,g0,g1,g2,g3,c1,c2,c3,c4]
  refine Q2 (store_Swap_a h1.st h1.wd e.at_ e.v e.o) ?_
  rintro a σ' ⟨rfl,e1⟩
  rw[e1]
  push_cast (disch:=omega)[aInt,aBool]
  exact hN _ _ ⟨by push_cast (disch:=omega)[hρ],h1.words (X26 _ _),Kp.set _ (by decide) _⟩
 clear hρ ε
 rintro ε σ2 ⟨hρ,h2,k2⟩
 have hB8':=k2.at h8 hB8
 have hB9':=k2.at h9 hB9
 have k3:=hk1.trans k2
 clear h1 hB8 hB9 k2 hk1
 clear σ1
 unfold Sv.ask
 have hno:(askD s.data e).2.1=false→(askD s.data e).2.2=s.data:=by
  unfold askD
  split
  ·intro _;rfl
  ·split
   ·intro _;rfl
   ·split
    ·intro h;cases h
    ·split
     ·intro h;cases h
     ·split
      ·intro h;cases h
      ·intro _;rfl
 generalize askD s.data e=dd at hρ h2 hno ⊢
 obtain ⟨got,ok,d'⟩:=dd
 simp only at hρ h2 hno ⊢
 have hl2:({ s with data:=d' }:Sv).l=f::r:=hl
 refine Qg (fun ε σ3=>(ε 0=.ref 4 0 0∧ε 1=.ref 6 w (r.length * 15)∧ε 2=.v (.int .i64 pc)∧ε 8=.ref i8 0 0∧ε 9=.ref i9 0 0∧ε 10=.v (.int .i64 got)∧ε 12=.v (.int .i64 (if e.k=1 then 1 else 2)))∧σ3=σ2∧ok=true) ?_ ?_
 ·intro N hN
  cases ok with
  | false=>
   push_cast (disch:=omega)[hρ]
   refine Q2 (QN h2 4 2) ?_
   rintro a σ' ⟨h3,k4⟩
   push_cast (disch:=omega)
   have hd:=hno rfl
   subst hd
   exact ⟨h3,k3.trans k4⟩
  | true=>
   push_cast (disch:=omega)[hρ]
   exact hN _ _ ⟨by push_cast (disch:=omega)[hρ],rfl,rfl⟩
 clear hρ ε
 rintro ε σ3 ⟨hρ,e3,rfl⟩
 rw[e3]
 clear e3 σ3
 rw[if_pos rfl]
 have g81:(aEf e)[1]?=some (.v (.int .i64 e.at_)):=rfl
 refine Q1 (fun ε σ3=>(ε 0=.ref 4 0 0∧ε 1=.ref 6 w (r.length * 15)∧ε 2=.v (.int .i64 pc)∧ε 8=.ref i8 0 0∧ε 9=.ref i9 0 0∧ε 10=.v (.int .i64 got))∧MA m fs σ3 w (({ s with data:=d' }:Sv).mark (if e.k=1 then 1 else 2) e.at_)∧Kp σ2 σ3) ?_ ?_
 ·intro N X R hN
  push_cast (disch:=omega)[hρ,hB9',g1]
  refine Q2 (Qu h2 (if e.k=1 then 1 else 2) e.at_ hb2) ?_
  rintro a σ' ⟨h3,k4⟩
  push_cast (disch:=omega)
  exact hN _ _ ⟨by push_cast (disch:=omega)[hρ],h3,k4⟩
 clear hρ ε
 rintro ε σ3 ⟨hρ,h3,k4⟩
 have hC8:=k4.at h8 hB8'
 have hC9:=k4.at h9 hB9'
 have k5:=k3.trans k4
 obtain ⟨cs,hc,hf⟩:=h3.fr1 hl2
 obtain ⟨h4,hlt⟩:=h3.st1 hl2 hf (j:=2) (by decide) (x:=.v (.int .i64 pc)) (g:={ f with pc:=pc }) rfl
 have k6:Kp σ3 (σ3.set 6 (.obj w (cs.set (r.length * 15+2) (.v (.int .i64 pc))))):=Kp.set _ (by decide) _
 push_cast (disch:=omega)[hρ,hC8,hC9,cells8',cells5]
 refine Q3 (step_Took_a rs e got hrs) ?_
 rintro a rfl
 push_cast (disch:=omega)[hρ]
 refine Q6 rfl rfl hc hlt ?_
 generalize σ3.set 6 (.obj w (cs.set (r.length * 15+2) (.v (.int .i64 pc))))=σ4 at h4 k6
 obtain ⟨cs4,hc4,hf4⟩:=h4.fr1 rfl
 obtain ⟨h5,hlt5⟩:=h4.stR rfl hf4 (tookR rs e got)
 push_cast (disch:=omega)[hρ]
 refine Q5 (Q62 _) rfl hc4 hlt5 ?_
 push_cast (disch:=omega)
 have ee:((({ s with data:=d' }:Sv).mark (if e.k=1 then 1 else 2) e.at_).setTop fun f=>{ f with pc:=pc,regs:=tookR rs e got })={ (({ s with data:=d' }:Sv).mark (if e.k=1 then 1 else 2) e.at_) with l:={ f with pc:=pc,regs:=tookR rs e got }::r }:=by
  simp[Sv.setTop,Sv.mark,hl]
 rw[ee]
 exact ⟨h5,(k5.trans k6).trans (Kp.set _ (by decide) _)⟩
end
end Go.Proofs.YtncdnegdlkmicaaGreat
namespace Go.Proofs.YtncdnegdlkmicaaGreat
set_option linter.unusedVariables false
set_option linter.unusedSimpArgs false
open Go Go.Kx Go.Proofs
section
variable {m:Int} {fs:List (List Ix)} {σ:Kx.St} {w:Nat} {s:Sv}
theorem XD {f:Sf} {r:List Sf} (hl:s.l=f::r) (hq:f.stage=0→∃q r',r=q::r'):∃r1,s.keep.l=f::r1∧r1.length=r.length∧s.keep.marks=s.marks:=by
 unfold Sv.keep Sv.set2
 have htop:s.top=f:=by simp[Sv.top,hl]
 rw[htop]
 by_cases c:f.stage=0
 ·obtain ⟨q,r',hr⟩:=hq c
  rw[if_pos c,hl,hr]
  exact ⟨_,rfl,rfl,rfl⟩
 ·rw[if_neg c]
  exact ⟨r,hl,rfl,rfl⟩
set_option maxHeartbeats 8000000 in
theorem X59 (h:MA m fs σ w s) {f:Sf} {r:List Sf} (hl:s.l=f::r) (hq:f.kind=2→∃q r',r=q::r') (pc:Int) (e:Ef) (hb:s.l.length≤1000000) (hb2:s.marks.length≤1000000):
  FnG Tryz.prog 64 [.ref 4 0 0,.ref 6 w (r.length * 15),aInt pc,.agg (aEf e)] σ fun _ σ'=>MA m fs σ' w (s.goOn pc e)∧Kp σ σ':=by
 refine Qk Xs mixed rfl ?_
 simp only[Zi,aInt]
 have hae:(AV.agg (aEf e)).cells=aEf e:=rfl
 have g0:(aEf e)[0]?=some (.v (.int .i64 e.k)):=rfl
 have g2:(aEf e)[2]?=some (.v (.int .i64 e.v)):=rfl
 have h8:=h.len
 refine Q1 (fun ε σ1=>(ε 0=.ref 4 0 0∧ε 1=.ref 6 w (r.length * 15)∧ε 2=.v (.int .i64 pc)∧ε 7=.ref σ.length 0 0)∧σ1=σ++[.obj 0 (aEf e)]) ?_ ?_
 ·intro N X R hN
  push_cast (disch:=omega)
  refine Qd ?_
  push_cast (disch:=omega)[hae]
  exact hN _ _ ⟨by push_cast (disch:=omega),rfl⟩
 rintro ε σ1 ⟨hρ,rfl⟩
 have hB:(σ++[Res.obj 0 (aEf e)])[σ.length]?=some (.obj 0 (aEf e)):=Qc _ _
 have hk1:Kp σ (σ++[Res.obj 0 (aEf e)]):=Kp.app _ _
 have h1:=h.app (τ:=[Res.obj 0 (aEf e)])
 generalize σ++[Res.obj 0 (aEf e)]=σ1 at hB h1 hk1
 generalize σ.length=i7 at hρ hB h8
 obtain ⟨cs,hc,hf⟩:=h1.fr1 hl
 have q0:=hf.get (QV f r) (j:=0) (x:=.v (.int .i64 f.kind)) rfl
 have q13:=hf.get (QV f r) (j:=13) (x:=.v (.int .i64 f.stage)) rfl
 rw[Nat.add_zero] at q0
 have htop:s.top=f:=by simp[Sv.top,hl]
 refine Q1 (fun ε σ2=>(ε 0=.ref 4 0 0∧ε 1=.ref 6 w (r.length * 15)∧ε 2=.v (.int .i64 pc)∧ε 7=.ref i7 0 0∧ε 8=.v (.int .i64 (goE f.stage e.v)))∧σ2=σ1) ?_ ?_
 ·intro N X R hN
  push_cast (disch:=omega)[hρ,hc,q13,hB,g2]
  refine Q3 (stage_Go_a f.stage e.v) ?_
  rintro a rfl
  push_cast (disch:=omega)[aInt]
  exact hN _ _ ⟨by push_cast (disch:=omega)[hρ],rfl⟩
 clear hρ ε
 rintro ε σ2 ⟨hρ,e2⟩
 rw[e2]
 clear e2 σ2
 refine Qg (fun ε σ2=>(ε 0=.ref 4 0 0∧ε 1=.ref 6 w (r.length * 15)∧ε 2=.v (.int .i64 pc)∧ε 7=.ref i7 0 0)∧σ2=σ1∧f.kind=2∧goE f.stage e.v=0) ?_ ?_
 ·intro N hN
  by_cases c1:f.kind=2
  ·rw[c1] at q0
   by_cases c2:goE f.stage e.v=0
   ·push_cast (disch:=omega)[hρ,hc,q0,c2]
    exact hN _ _ ⟨by push_cast (disch:=omega)[hρ],rfl,c1,c2⟩
   ·have es:s.goOn pc e=s.stop 4 (goE f.stage e.v):=by
     unfold Sv.goOn
     rw[htop,if_neg (by simpa using c1),if_pos c2]
    push_cast (disch:=omega)[hρ,hc,q0,c2]
    refine Q2 (QN h1 4 (goE f.stage e.v)) ?_
    rintro a σ' ⟨h3,k4⟩
    push_cast (disch:=omega)
    rw[es]
    exact ⟨h3,hk1.trans k4⟩
  ·have es:s.goOn pc e=s.stop 4 4:=by
    unfold Sv.goOn
    rw[htop,if_pos c1]
   push_cast (disch:=omega)[hρ,hc,q0,c1]
   refine Q2 (QN h1 4 4) ?_
   rintro a σ' ⟨h3,k4⟩
   push_cast (disch:=omega)
   rw[es]
   exact ⟨h3,hk1.trans k4⟩
 clear hρ ε
 rintro ε σ2 ⟨hρ,e2,c1,c2⟩
 rw[e2]
 clear e2 σ2
 have hq':f.stage=0→∃q r',r=q::r':=fun _=>hq c1
 refine Q1 (fun ε σ2=>(ε 0=.ref 4 0 0∧ε 1=.ref 6 w (r.length * 15)∧ε 2=.v (.int .i64 pc)∧ε 7=.ref i7 0 0)∧MA m fs σ2 w s.keep∧Kp σ1 σ2) ?_ ?_
 ·intro N X R hN
  push_cast (disch:=omega)[hρ]
  refine Q2 (X1 h1 hl hq' hb) ?_
  rintro a σ' ⟨h3,k4⟩
  push_cast (disch:=omega)
  exact hN _ _ ⟨by push_cast (disch:=omega)[hρ],h3,k4⟩
 clear hρ ε
 rintro ε σ2 ⟨hρ,h2,k2⟩
 have hB2:=k2.at h8 hB
 have k3:=hk1.trans k2
 obtain ⟨r1,hkl,hkn,hkm⟩:=XD hl hq'
 rw[←hkn] at hρ
 clear hc hf q0 q13 h1 hB hk1 k2
 clear cs σ1
 obtain ⟨cs,hc,hf⟩:=h2.fr1 hkl
 obtain ⟨h3,hlt⟩:=h2.st1 hkl hf (j:=2) (by decide) (x:=.v (.int .i64 pc)) (g:={ f with pc:=pc }) rfl
 have k4:Kp σ2 (σ2.set 6 (.obj w (cs.set (r1.length * 15+2) (.v (.int .i64 pc))))):=Kp.set _ (by decide) _
 refine Q1 (fun ε σ3=>(ε 0=.ref 4 0 0∧ε 7=.ref i7 0 0)∧MA m fs σ3 w { s.keep with l:={ f with pc:=pc,stage:=e.v }::r1 }∧Kp σ2 σ3) ?_ ?_
 ·intro N X R hN
  push_cast (disch:=omega)[hρ,hB2,g2]
  refine Q6 rfl rfl hc hlt ?_
  have hB3:=k4.at h8 hB2
  generalize σ2.set 6 (.obj w (cs.set (r1.length * 15+2) (.v (.int .i64 pc))))=σ3 at h3 k4 hB3
  obtain ⟨cs3,hc3,hf3⟩:=h3.fr1 rfl
  obtain ⟨h5,hlt5⟩:=h3.st1 rfl hf3 (j:=13) (by decide) (x:=.v (.int .i64 e.v)) (g:={ f with pc:=pc,stage:=e.v }) rfl
  push_cast (disch:=omega)[hρ]
  refine ⟨Q8 (by push_cast (disch:=omega)[hρ,hB3,g2,QC]),?_⟩
  refine Q6 rfl rfl hc3 hlt5 ?_
  push_cast (disch:=omega)
  exact hN _ _ ⟨by push_cast (disch:=omega)[hρ],h5,k4.trans (Kp.set _ (by decide) _)⟩
 clear hρ ε
 rintro ε σ3 ⟨hρ,h5,k5⟩
 have hB5:=k5.at h8 hB2
 have k6:=k3.trans k5
 have es:s.goOn pc e=({ s.keep with l:={ f with pc:=pc,stage:=e.v }::r1 }:Sv).mark (if e.k=9 then 11 else 12) e.v:=by
  unfold Sv.goOn
  rw[htop,if_neg (by simpa using c1),if_neg (by simpa using c2)]
  simp[Sv.setTop,Sv.mark,hkl]
 rw[es]
 have hm5:({ s.keep with l:={ f with pc:=pc,stage:=e.v }::r1 }:Sv).marks.length≤1000000:=by simpa[hkm] using hb2
 refine Q1 (fun ε σ4=>(ε 0=.ref 4 0 0∧ε 7=.ref i7 0 0∧ε 44=.v (.bool (decide (e.k=9))))∧σ4=σ3) ?_ ?_
 ·intro N X R hN
  push_cast (disch:=omega)[hρ,hB5,g0]
  exact hN _ _ ⟨by push_cast (disch:=omega)[hρ],rfl⟩
 clear hρ ε
 rintro ε σ4 ⟨hρ,e4⟩
 rw[e4]
 by_cases c9:e.k=9
 ·rw[if_pos c9]
  push_cast (disch:=omega)[hρ,c9,hB5,g2]
  refine Q2 (Qu h5 11 e.v hm5) ?_
  rintro a σ' ⟨h6,k7⟩
  push_cast (disch:=omega)
  exact ⟨h6,k6.trans k7⟩
 ·rw[if_neg c9]
  push_cast (disch:=omega)[hρ,c9,hB5,g2]
  refine Q2 (Qu h5 12 e.v hm5) ?_
  rintro a σ' ⟨h6,k7⟩
  push_cast (disch:=omega)
  exact ⟨h6,k6.trans k7⟩
end
end Go.Proofs.YtncdnegdlkmicaaGreat
namespace Go.Proofs.YtncdnegdlkmicaaGreat
set_option linter.unusedVariables false
set_option linter.unusedSimpArgs false
open Go Go.Kx Go.Proofs
section
variable {m:Int} {fs:List (List Ix)} {σ:Kx.St} {w:Nat} {s:Sv}
theorem MA.evs (h:MA m fs σ w s) {s':Sv} (hl:s'.l=s.l) (hd:s'.data=s.data) {wm wo:Nat} (hm:σ[7]?=some (.tail wm)) (ho:σ[8]?=some (.tail wo)):MA m fs (σ.set 4 (.obj 0 (evC m fs.length w wm wo s'))) w s':=by
 obtain ⟨wm0,wo0,he,_,_⟩:=h.ev
 obtain ⟨cs,hc,hf⟩:=h.fr
 exact ⟨Q0 (by decide) h.fz,by rw[hd];exact Q0 (by decide) h.wd,by rw[hd];exact Q0 (by decide) h.st,⟨wm,wo,Q4 he,Q0 (by decide) hm,Q0 (by decide) ho⟩,⟨cs,Q0 (by decide) hc,by rw[hl];exact hf⟩⟩
theorem keep0 {f q:Sf} {r:List Sf} (hl:s.l=f::q::r) (c:f.stage=0):s.keep={ s with l:=f::{ q with regs:=f.regs }::r }:=by
 unfold Sv.keep Sv.set2
 have htop:s.top=f:=by simp[Sv.top,hl]
 rw[htop,if_pos c,hl]
set_option maxHeartbeats 8000000 in
theorem eval_leave_a (h:MA m fs σ w s) {f:Sf} {r:List Sf} (hl:s.l=f::r) (hq:f.kind=2→∃q p r',r=q::p::r') (hb:s.l.length≤1000000) (hb2:s.marks.length≤999999):
  FnG Tryz.prog 65 [.ref 4 0 0,.ref 6 w (r.length * 15)] σ fun _ σ'=>MA m fs σ' w s.leave∧Kp σ σ':=by
 refine Qk Z92 mixed rfl ?_
 simp only[Q89]
 obtain ⟨cs,hc,hf⟩:=h.fr1 hl
 have q0:=hf.get (QV f r) (j:=0) (x:=.v (.int .i64 f.kind)) rfl
 have q13:=hf.get (QV f r) (j:=13) (x:=.v (.int .i64 f.stage)) rfl
 rw[Nat.add_zero] at q0
 have htop:s.top=f:=by simp[Sv.top,hl]
 refine Qg (fun ε σ2=>(ε 0=.ref 4 0 0∧ε 1=.ref 6 w (r.length * 15))∧σ2=σ∧f.kind=2∧f.stage=0) ?_ ?_
 ·intro N hN
  by_cases c1:f.kind=2
  ·rw[c1] at q0
   by_cases c2:f.stage=0
   ·rw[c2] at q13
    push_cast (disch:=omega)[hc,q0,q13]
    exact hN _ _ ⟨by push_cast (disch:=omega),rfl,c1,c2⟩
   ·have es:s.leave=s.stop 4 5:=by
     unfold Sv.leave
     rw[htop,if_neg (by simpa using c1),if_pos c2]
    push_cast (disch:=omega)[hc,q0,q13,c2]
    refine Q2 (QN h 4 5) ?_
    rintro a σ' ⟨h3,k4⟩
    push_cast (disch:=omega)
    rw[es]
    exact ⟨h3,k4⟩
  ·have es:s.leave=s.stop 4 4:=by
    unfold Sv.leave
    rw[htop,if_pos c1]
   push_cast (disch:=omega)[hc,q0,c1]
   refine Q2 (QN h 4 4) ?_
   rintro a σ' ⟨h3,k4⟩
   push_cast (disch:=omega)
   rw[es]
   exact ⟨h3,k4⟩
 rintro ε σ2 ⟨hρ,e2,c1,c2⟩
 rw[e2]
 clear e2 σ2
 obtain ⟨q,p,r',hr⟩:=hq c1
 have hl':s.l=f::q::p::r':=by rw[hl,hr]
 have ek:=keep0 hl' c2
 refine Q1 (fun ε σ2=>(ε 0=.ref 4 0 0∧ε 1=.ref 6 w (r.length * 15))∧MA m fs σ2 w { s with l:=f::{ q with regs:=f.regs }::p::r' }∧Kp σ σ2) ?_ ?_
 ·intro N X R hN
  push_cast (disch:=omega)[hρ]
  refine Q2 (X1 h hl (fun _=>⟨q,p::r',hr⟩) hb) ?_
  rintro a σ' ⟨h3,k4⟩
  push_cast (disch:=omega)
  exact hN _ _ ⟨by push_cast (disch:=omega)[hρ],by rw[ek] at h3;exact h3,k4⟩
 clear hρ ε
 rintro ε σ2 ⟨hρ,h2,k2⟩
 have es:s.leave=(((({ s with l:=f::{ q with regs:=f.regs }::p::r' }:Sv).mark 10 f.index).pop.pop).mark 8 q.serial).setTop fun x=>{ x with regs:=f.regs }:=by
  unfold Sv.leave
  rw[htop,if_neg (by simpa using c1),if_neg (by simpa using c2),ek]
  rfl
 rw[es]
 have hlen:r.length=(p::r').length+1:=by rw[hr];rfl
 clear hc hf q0 q13
 clear cs
 obtain ⟨cs,hc,hf⟩:=h2.fr1 rfl
 have q12:=hf.get (QV f _) (j:=12) (x:=.v (.int .i64 f.index)) rfl
 rw[show ({ q with regs:=f.regs }::p::r':List Sf).length=r.length from by rw[hlen];rfl] at q12
 have hb':s.l.length=r.length+1:=by rw[hl];rfl
 refine Q1 (fun ε σ3=>ε 0=.ref 4 0 0∧MA m fs σ3 w (({ s with l:=f::{ q with regs:=f.regs }::p::r' }:Sv).mark 10 f.index)∧Kp σ2 σ3) ?_ ?_
 ·intro N X R hN
  push_cast (disch:=omega)[hρ,hc,q12]
  refine Q2 (Qu h2 10 f.index (by show s.marks.length≤_;omega)) ?_
  rintro a σ' ⟨h3,k4⟩
  push_cast (disch:=omega)
  exact hN _ _ ⟨by push_cast (disch:=omega)[hρ],h3,k4⟩
 clear hρ ε
 rintro ε σ3 ⟨hρ,h3,k3⟩
 refine Q1 (fun ε σ4=>ε 0=.ref 4 0 0∧MA m fs σ4 w (({ s with l:=f::{ q with regs:=f.regs }::p::r' }:Sv).mark 10 f.index).pop∧Kp σ3 σ4) ?_ ?_
 ·intro N X R hN
  push_cast (disch:=omega)[hρ]
  refine Q2 (Z55 h3 (f:=f) (r:={ q with regs:=f.regs }::p::r') rfl (by show ({ q with regs:=f.regs }::p::r':List Sf).length+1≤_;simp only[List.length_cons] at hlen ⊢;omega)) ?_
  rintro a σ' ⟨rfl,h4,k4⟩
  push_cast (disch:=omega)
  exact hN _ _ ⟨by push_cast (disch:=omega)[hρ],h4,k4⟩
 clear hρ ε
 rintro ε σ4 ⟨hρ,h4,k4⟩
 have hset:∀g:Sf,setAtA (aSf ⟨0,0,0,z8,false,0,0,0⟩) 0 (aSf g)=aSf g:=fun g=>rfl
 refine Q1 (fun ε σ5=>∃i,(ε 0=.ref 4 0 0∧ε 4=.ref i 0 0)∧8 < i∧σ5[i]?=some (.obj 0 (aSf { q with regs:=f.regs }))∧MA m fs σ5 w (({ s with l:=f::{ q with regs:=f.regs }::p::r' }:Sv).mark 10 f.index).pop.pop∧Kp σ4 σ5) ?_ ?_
 ·intro N X R hN
  push_cast (disch:=omega)[hρ]
  refine Q2 (Z55 h4 (f:={ q with regs:=f.regs }) (r:=p::r') rfl (by show (p::r':List Sf).length+1≤_;omega)) ?_
  rintro a σ' ⟨rfl,h5,k5⟩
  have h8:=h5.len
  push_cast (disch:=omega)
  refine Qb ?_
  push_cast (disch:=omega)
  refine Q5 (cs:=aSf ⟨0,0,0,z8,false,0,0,0⟩) (Q96 _) rfl (Qc _ _) (by simp[aSf]) ?_
  rw[hset,Z09]
  push_cast (disch:=omega)
  exact hN _ _ ⟨σ'.length,by push_cast (disch:=omega)[hρ],h8,Qc _ _,h5.app,k5.trans (Kp.app _ _)⟩
 clear hρ ε
 rintro ε σ5 ⟨i4,hρ,h8,hB,h5,k5⟩
 have q14:(aSf { q with regs:=f.regs })[14]?=some (.v (.int .i64 q.serial)):=rfl
 refine Q1 (fun ε σ6=>(ε 0=.ref 4 0 0∧ε 4=.ref i4 0 0)∧MA m fs σ6 w ((({ s with l:=f::{ q with regs:=f.regs }::p::r' }:Sv).mark 10 f.index).pop.pop.mark 8 q.serial)∧Kp σ5 σ6) ?_ ?_
 ·intro N X R hN
  push_cast (disch:=omega)[hρ,hB,q14]
  refine Q2 (Qu h5 8 q.serial (by simp[Sv.pop,Sv.mark];omega)) ?_
  rintro a σ' ⟨h6,k6⟩
  push_cast (disch:=omega)
  exact hN _ _ ⟨by push_cast (disch:=omega)[hρ],h6,k6⟩
 clear hρ ε
 rintro ε σ6 ⟨hρ,h6,k6⟩
 have hB6:=k6.at h8 hB
 have kk:=((((k2.trans k3).trans k4).trans k5).trans k6)
 have q3:(aSf { q with regs:=f.regs }).drop 3=aRg f.regs++[.v (.bool q.dirty),.v (.int .i64 q.index),.v (.int .i64 q.stage),.v (.int .i64 q.serial)]:=rfl
 have hl6:((({ s with l:=f::{ q with regs:=f.regs }::p::r' }:Sv).mark 10 f.index).pop.pop.mark 8 q.serial).l=p::r':=rfl
 obtain ⟨cs6,hc6,hf6⟩:=h6.fr1 hl6
 obtain ⟨h7,hlt⟩:=h6.stR hl6 hf6 f.regs
 push_cast (disch:=omega)[hρ,hB6,q3,cells8a]
 refine Q2 (X00 h6 hl6 (by show (p::r':List Sf).length≤_;omega)) ?_
 rintro a σ' ⟨rfl,e1⟩
 rw[e1]
 push_cast (disch:=omega)
 refine ⟨Q8 (by push_cast (disch:=omega)[hρ,hB6,q3,cells8a,ex_Rg]),?_⟩
 refine Q5 (Q62 _) rfl hc6 hlt ?_
 push_cast (disch:=omega)
 exact ⟨h7,kk.trans (Kp.set _ (by decide) _)⟩
set_option maxHeartbeats 8000000 in
theorem eval_back_a (h:MA m fs σ w s) {f:Sf} {r:List Sf} (hl:s.l=f::r) (hq:f.kind=2→∃q r',r=q::r') (hb:s.l.length≤1000000) (hb2:s.marks.length≤999999):
  FnG Tryz.prog 66 [.ref 4 0 0,.ref 6 w (r.length * 15)] σ fun _ σ'=>∃w',MA m fs σ' w' s.back∧Kp σ σ':=by
 refine Qk Xt mixed rfl ?_
 simp only[Zj]
 obtain ⟨cs,hc,hf⟩:=h.fr1 hl
 have q0:=hf.get (QV f r) (j:=0) (x:=.v (.int .i64 f.kind)) rfl
 rw[Nat.add_zero] at q0
 have htop:s.top=f:=by simp[Sv.top,hl]
 refine QM fun X' _=>?_
 refine Q1 (fun ε σ2=>(ε 0=.ref 4 0 0∧ε 1=.ref 6 w (r.length * 15)∧ε 8=.v (.bool (decide (f.kind=2))))∧σ2=σ) ?_ ?_
 ·intro N X R hN
  push_cast (disch:=omega)[hc,q0]
  exact hN _ _ ⟨by push_cast (disch:=omega),rfl⟩
 rintro ε σ2 ⟨hρ,e2⟩
 rw[e2]
 clear e2 σ2
 by_cases c1:f.kind=2
 ·obtain ⟨q,r',hr⟩:=hq c1
  have hq':f.stage=0→∃q r',r=q::r':=fun _=>⟨q,r',hr⟩
  obtain ⟨r1,hkl,hkn,hkm⟩:=XD hl hq'
  have es:s.back=((s.keep.mark 10 f.index).pop).iterate:=by
   unfold Sv.back
   rw[htop,if_pos c1]
  rw[es]
  have hkq:∃q1 r1',r1=q1::r1':=by
   cases r1 with
   | nil=>rw[hr] at hkn;simp at hkn
   | cons a b=>exact ⟨a,b,rfl⟩
  obtain ⟨q1,r1',hr1⟩:=hkq
  have hb':s.l.length=r1.length+1:=by rw[hl,hkn];rfl
  push_cast (disch:=omega)[hρ,c1]
  refine Q2 (X1 h hl hq' hb) ?_
  rintro a σ2 ⟨h2,k2⟩
  obtain ⟨cs2,hc2,hf2⟩:=h2.fr1 hkl
  have q12:=hf2.get (QV f _) (j:=12) (x:=.v (.int .i64 f.index)) rfl
  rw[hkn] at q12
  push_cast (disch:=omega)[hρ,hc2,q12]
  refine Q2 (Qu h2 10 f.index (by rw[hkm];omega)) ?_
  rintro a σ3 ⟨h3,k3⟩
  push_cast (disch:=omega)[hρ]
  have hl3:(s.keep.mark 10 f.index).l=f::r1:=hkl
  refine Q2 (Z55 h3 hl3 (by rw[hl3];simp only[List.length_cons];omega)) ?_
  rintro a σ4 ⟨rfl,h4,k4⟩
  push_cast (disch:=omega)[hρ]
  have hl4:(s.keep.mark 10 f.index).pop.l=q1::r1':=by
   show s.keep.l.tail=_
   rw[hkl,←hr1]
   rfl
  refine Q2 (Z82 h4 hl4 (by rw[hl4,←hr1];omega) (by show (s.keep.marks++[_]).length≤_;rw[hkm];simp;omega)) ?_
  rintro a σ5 ⟨h5,k5⟩
  push_cast (disch:=omega)
  exact ⟨w+1,h5,((k2.trans k3).trans k4).trans k5⟩
 ·have hn:s.l.length=r.length+1:=by rw[hl];rfl
  obtain ⟨wm,wo,he,hm,ho⟩:=h.ev
  have g2:(evC m fs.length w wm wo s)[2]?=some (.ms 6 w 0 (r.length+1) 15):=by rw[ev2,hn]
  by_cases c2:r.length=0
  ·have es:s.back=s.stop 1 0:=by
    unfold Sv.back
    rw[htop,if_neg c1,if_pos (by omega)]
   rw[es]
   rw[c2] at g2
   push_cast (disch:=omega)[hρ,c1,he,g2]
   refine Q2 (QN h 1 0) ?_
   rintro a σ' ⟨h3,k4⟩
   push_cast (disch:=omega)
   exact ⟨w,h3,k4⟩
  ·have es:s.back=(s.mark 5 0).pop:=by
    unfold Sv.back
    rw[htop,if_neg c1,if_neg (by omega)]
   rw[es]
   have c3:¬((r.length:Int)+1=1):=by omega
   push_cast (disch:=omega)[hρ,c1,he,g2,c3]
   refine Q2 (Qu h 5 0 (by omega)) ?_
   rintro a σ' ⟨h3,k4⟩
   push_cast (disch:=omega)[hρ]
   have hl3:(s.mark 5 0).l=f::r:=hl
   refine Q2 (Z55 h3 hl3 (by rw[hl3];simp only[List.length_cons];omega)) ?_
   rintro a σ4 ⟨rfl,h4,k5⟩
   push_cast (disch:=omega)
   exact ⟨w,h4,k4.trans k5⟩
end
end Go.Proofs.YtncdnegdlkmicaaGreat
namespace Go.Proofs.YtncdnegdlkmicaaGreat
set_option linter.unusedVariables false
set_option linter.unusedSimpArgs false
open Go Go.Kx Go.Proofs
section
variable {m:Int} {fs:List (List Ix)} {σ:Kx.St} {w:Nat} {s:Sv}
theorem fill_tk (k fn:Int) (rs:List Int):fillA [AV.v (.int .i64 0),AV.v (.int .i64 0),AV.v (.int .i64 0),AV.v (.int .i64 0),AV.v (.int .i64 0),AV.v (.int .i64 0),AV.v (.int .i64 0),AV.v (.int .i64 0),AV.v (.int .i64 0),AV.v (.int .i64 0),AV.v (.int .i64 0),AV.v (.bool false),AV.v (.int .i64 0),AV.v (.int .i64 0),AV.v (.int .i64 0)]
  [(0,1),(1,1),(3,8)] [.v (.int .i64 k),.v (.int .i64 fn),.agg (aRg rs)]=some (aSf ⟨k,fn,0,rs,false,0,0,0⟩):=rfl
theorem fill_lp (fn n:Int) (rs:List Int):fillA [AV.v (.int .i64 0),AV.v (.int .i64 0),AV.v (.int .i64 0),AV.v (.int .i64 0),AV.v (.int .i64 0),AV.v (.int .i64 0),AV.v (.int .i64 0),AV.v (.int .i64 0),AV.v (.int .i64 0),AV.v (.int .i64 0),AV.v (.int .i64 0),AV.v (.bool false),AV.v (.int .i64 0),AV.v (.int .i64 0),AV.v (.int .i64 0)]
  [(0,1),(1,1),(3,8),(14,1)] [.v (.int .i64 3),.v (.int .i64 fn),.agg (aRg rs),.v (.int .i64 n)]=some (aSf ⟨3,fn,0,rs,false,0,0,n⟩):=rfl
theorem ev8' {n wm wo:Nat}:(evC m n w wm wo s)[6+2]?=some (.sl s.out.length (s.out.map aInt) (.id 8 wo 1)):=rfl
theorem ex_sl (n:Nat) (cs:List AV) (i w k:Nat):(AV.sl n cs (.id i w k)).exact=true:=rfl
set_option maxHeartbeats 8000000 in
theorem Ys (h:MA m fs σ w s) {f:Sf} {r:List Sf} (hl:s.l=f::r) (e:Ef) (hb:s.l.length≤999999) (hb2:s.marks.length≤999999) (hb3:s.out.length≤1000000):
  FnG Tryz.prog 67 [.ref 4 0 0,.ref 6 w (r.length * 15),.agg (aEf e)] σ fun _ σ'=>∃w',MA m fs σ' w' (s.begins e)∧Kp σ σ':=by
 refine Qk Z62 mixed rfl ?_
 simp only[Q63]
 have hae:(AV.agg (aEf e)).cells=aEf e:=rfl
 have g0:(aEf e)[0]?=some (.v (.int .i64 e.k)):=rfl
 have g2:(aEf e)[2]?=some (.v (.int .i64 e.v)):=rfl
 have h8:=h.len
 have htop:s.top=f:=by simp[Sv.top,hl]
 refine Q1 (fun ε σ1=>(ε 0=.ref 4 0 0∧ε 1=.ref 6 w (r.length * 15)∧ε 5=.ref σ.length 0 0)∧σ1=σ++[.obj 0 (aEf e)]) ?_ ?_
 ·intro N X R hN
  push_cast (disch:=omega)
  refine Qd ?_
  push_cast (disch:=omega)[hae]
  exact hN _ _ ⟨by push_cast (disch:=omega),rfl⟩
 rintro ε σ1 ⟨hρ,rfl⟩
 have hB:(σ++[Res.obj 0 (aEf e)])[σ.length]?=some (.obj 0 (aEf e)):=Qc _ _
 have hk1:Kp σ (σ++[Res.obj 0 (aEf e)]):=Kp.app _ _
 have h1:=h.app (τ:=[Res.obj 0 (aEf e)])
 generalize σ++[Res.obj 0 (aEf e)]=σ1 at hB h1 hk1
 generalize σ.length=i5 at hρ hB h8
 refine Q1 (fun ε σ2=>(ε 0=.ref 4 0 0∧ε 1=.ref 6 w (r.length * 15)∧ε 5=.ref i5 0 0∧ε 7=.v (.int .i64 e.k))∧σ2=σ1) ?_ ?_
 ·intro N X R hN
  push_cast (disch:=omega)[hρ,hB,g0]
  exact hN _ _ ⟨by push_cast (disch:=omega)[hρ],rfl⟩
 clear hρ ε
 rintro ε σ2 ⟨hρ,e2⟩
 rw[e2]
 clear e2 σ2
 refine QM fun X' _=>?_
 obtain ⟨wm,wo,he,hm,ho⟩:=h1.ev
 obtain ⟨cs,hc,hf⟩:=h1.fr1 hl
 by_cases c5:e.k=5
 ·have es:s.begins e=({ s with out:=s.out++[e.v] }:Sv).mark 3 e.v:=by unfold Sv.begins;rw[if_pos c5]
  rw[es]
  have h2:=(h1.set (by decide:8 < 9) (Res.obj 0 [])).evs (s':={ s with out:=s.out++[e.v] }) rfl rfl (Q0 (by decide) hm) (Q0 (by decide) ho)
  clear h2
  have hol:(s.out.map aInt).length=s.out.length * 1:=by simp
  have hT:=Q4 (o:=Res.tail (wo+1)) ho
  have hev:(evC m fs.length w wm wo s).set (6+2) (.sl (s.out.length+1) (s.out.map aInt++[.v (.int .i64 e.v)]) (.id 8 (wo+1) 1))=evC m fs.length w wm (wo+1) { s with out:=s.out++[e.v] }:=by simp[evC,aInt]
  have hM:MA m fs ((σ1.set 8 (.tail (wo+1))).set 4 (.obj 0 (evC m fs.length w wm (wo+1) { s with out:=s.out++[e.v] }))) w { s with out:=s.out++[e.v] }:=
   ⟨Q0 (by decide) (Q0 (by decide) h1.fz),Q0 (by decide) (Q0 (by decide) h1.wd),Q0 (by decide) (Q0 (by decide) h1.st),
    ⟨wm,wo+1,Q4 (Q0 (by decide) he),Q0 (by decide) (Q0 (by decide) hm),Q0 (by decide) hT⟩,⟨cs,Q0 (by decide) (Q0 (by decide) hc),by rw[←hl] at hf;exact hf⟩⟩
  have kM:Kp σ1 ((σ1.set 8 (.tail (wo+1))).set 4 (.obj 0 (evC m fs.length w wm (wo+1) { s with out:=s.out++[e.v] }))):=(Kp.set _ (by decide) _).trans (Kp.set _ (by decide) _)
  have hBM:=kM.at h8 hB
  have hvc:(AV.v (.int .i64 e.v)).cells=[.v (.int .i64 e.v)]:=rfl
  push_cast (disch:=omega)[hρ,c5,he,ev8',hB,g2]
  refine Qf (sz:=1) (by intro a ha;simp at ha;subst ha;rfl) (by simp) ?_
  push_cast (disch:=omega)[hρ,hvc,List.append_nil]
  refine ⟨Q8 (by push_cast (disch:=omega)[he,ev8',ex_sl]),?_⟩
  refine Z08 (m:=1) rfl rfl rfl rfl hol (by omega) (by omega) ho ?_
  push_cast (disch:=omega)[hρ]
  refine Q6 rfl rfl (Q0 (by decide) he) (by simp[evC]) ?_
  rw[hev]
  generalize (σ1.set 8 (.tail (wo+1))).set 4 (.obj 0 (evC m fs.length w wm (wo+1) { s with out:=s.out++[e.v] }))=σ2 at hM kM hBM
  push_cast (disch:=omega)[hρ,hBM,g2]
  refine Q2 (Qu hM 3 e.v (by show s.marks.length≤_;omega)) ?_
  rintro a σ' ⟨h3,k3⟩
  push_cast (disch:=omega)
  exact ⟨w,h3,(hk1.trans kM).trans k3⟩
 by_cases c6:e.k=6
 ·have es:s.begins e=(({ s with l:={ f with dirty:=true }::r }:Sv).mark 4 0).push ⟨1,e.v,0,f.regs,false,0,0,0⟩:=by
   unfold Sv.begins
   rw[if_neg c5,if_pos c6,htop]
   simp[Sv.setTop,hl]
  rw[es]
  obtain ⟨h2,hlt⟩:=h1.st1 hl hf (j:=11) (by decide) (x:=.v (.bool true)) (g:={ f with dirty:=true }) rfl
  have k2:Kp σ1 (σ1.set 6 (.obj w (cs.set (r.length * 15+11) (.v (.bool true))))):=Kp.set _ (by decide) _
  push_cast (disch:=omega)[hρ,c6]
  refine Q6 rfl rfl hc hlt ?_
  generalize σ1.set 6 (.obj w (cs.set (r.length * 15+11) (.v (.bool true))))=σ2 at h2 k2
  push_cast (disch:=omega)[hρ]
  refine Q2 (Qu h2 4 0 (by show s.marks.length≤_;omega)) ?_
  rintro a σ3 ⟨h3,k3⟩
  obtain ⟨cs3,hc3,hf3⟩:=h3.fr1 rfl
  obtain ⟨t,hr⟩:=hf3.regs (QV _ r)
  have hB3:=(k2.trans k3).at h8 hB
  push_cast (disch:=omega)[hρ,hB3,g2,hc3,hr,cells8a,fill_tk]
  refine Q2 (X0 h3 ⟨1,e.v,0,f.regs,false,0,0,0⟩ (by show (_::r:List Sf).length≤_;rw[hl] at hb;simp only[List.length_cons] at hb ⊢;omega)) ?_
  rintro a σ4 ⟨h4,k4⟩
  push_cast (disch:=omega)
  exact ⟨w+1,h4,((hk1.trans k2).trans k3).trans k4⟩
 by_cases c8:e.k=8
 ·have es:s.begins e=((({ s with serial:=IntKind.i64.wrap (s.serial+1) }:Sv).mark 7 (IntKind.i64.wrap (s.serial+1))).push ⟨3,e.v,0,f.regs,false,0,0,IntKind.i64.wrap (s.serial+1)⟩).iterate:=by
   unfold Sv.begins
   rw[if_neg c5,if_neg c6,if_pos c8,htop]
  rw[es]
  have hev:(evC m fs.length w wm wo s).set 5 (.v (.int .i64 (IntKind.i64.wrap (s.serial+1))))=evC m fs.length w wm wo { s with serial:=IntKind.i64.wrap (s.serial+1) }:=rfl
  have h2:=h1.evs (s':={ s with serial:=IntKind.i64.wrap (s.serial+1) }) rfl rfl hm ho
  have k2:Kp σ1 (σ1.set 4 (.obj 0 (evC m fs.length w wm wo { s with serial:=IntKind.i64.wrap (s.serial+1) }))):=Kp.set _ (by decide) _
  push_cast (disch:=omega)[hρ,c8,he,ev5]
  refine Q6 rfl rfl he (by simp[evC]) ?_
  rw[hev]
  generalize σ1.set 4 (.obj 0 (evC m fs.length w wm wo { s with serial:=IntKind.i64.wrap (s.serial+1) }))=σ2 at h2 k2
  obtain ⟨wm2,wo2,he2,hm2,ho2⟩:=h2.ev
  have e52:(evC m fs.length w wm2 wo2 { s with serial:=IntKind.i64.wrap (s.serial+1) })[5]?=some (.v (.int .i64 (IntKind.i64.wrap (s.serial+1)))):=rfl
  push_cast (disch:=omega)[hρ,he2,e52]
  refine Q2 (Qu h2 7 (IntKind.i64.wrap (s.serial+1)) (by show s.marks.length≤_;omega)) ?_
  rintro a σ3 ⟨h3,k3⟩
  have hl3:(({ s with serial:=IntKind.i64.wrap (s.serial+1) }:Sv).mark 7 (IntKind.i64.wrap (s.serial+1))).l=f::r:=hl
  obtain ⟨cs3,hc3,hf3⟩:=h3.fr1 hl3
  obtain ⟨t,hr⟩:=hf3.regs (QV _ r)
  have hB3:=(k2.trans k3).at h8 hB
  obtain ⟨wm3,wo3,he3,hm3,ho3⟩:=h3.ev
  have e53:(evC m fs.length w wm3 wo3 (({ s with serial:=IntKind.i64.wrap (s.serial+1) }:Sv).mark 7 (IntKind.i64.wrap (s.serial+1))))[5]?=some (.v (.int .i64 (IntKind.i64.wrap (s.serial+1)))):=rfl
  push_cast (disch:=omega)[hρ,hB3,g2,hc3,hr,he3,e53,cells8a,fill_lp]
  refine Q2 (X0 h3 ⟨3,e.v,0,f.regs,false,0,0,IntKind.i64.wrap (s.serial+1)⟩ (by rw[hl3];rw[hl] at hb;omega)) ?_
  rintro a σ4 ⟨h4,k4⟩
  push_cast (disch:=omega)[hρ]
  refine Q2 (Z82 h4 (f:=⟨3,e.v,0,f.regs,false,0,0,IntKind.i64.wrap (s.serial+1)⟩) (r:=s.l) rfl (by show (_::s.l:List Sf).length≤_;simp only[List.length_cons];omega) (by show (s.marks++[_]).length≤_;simp;omega)) ?_
  rintro a σ5 ⟨h5,k5⟩
  push_cast (disch:=omega)
  exact ⟨w+1+1,h5,(((hk1.trans k2).trans k3).trans k4).trans k5⟩
 have es:s.begins e=s:=by
  unfold Sv.begins
  rw[if_neg c5,if_neg c6,if_neg c8]
 rw[es]
 push_cast (disch:=omega)[hρ,c5,c6,c8]
 exact ⟨w,h1,hk1⟩
end
end Go.Proofs.YtncdnegdlkmicaaGreat
