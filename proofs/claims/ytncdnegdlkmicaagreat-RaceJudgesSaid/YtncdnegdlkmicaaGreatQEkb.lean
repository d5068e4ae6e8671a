/- The document's evaluator: frames in memory; memory, ends: the walks. -/
import Derived.Test.YtncdnegdlkmicaaGreatQEka
namespace Go.Proofs.YtncdnegdlkmicaaGreat.Sr
set_option linter.unusedVariables false
set_option linter.unusedSimpArgs false
open Go Go.Kx Go.Proofs
def frC (F:Sf) (lp:List Int) (br:Bool):List AV:=
 [.v (.int .i64 F.fn),.v (.int .i64 F.pc),.v (.int .i64 F.stage),.v (.int .i64 F.index)]++(aRg F.regs++([.v (.bool F.dirty),.v (.bool (decide (F.kind=2)))]++(aRg lp++[.v (.bool br)])))
section
variable (F:Sf) (lp:List Int) (br:Bool)
theorem fr0:(frC F lp br)[0]?=some (.v (.int .i64 F.fn)):=rfl
theorem fr1:(frC F lp br)[1]?=some (.v (.int .i64 F.pc)):=rfl
theorem fr2:(frC F lp br)[2]?=some (.v (.int .i64 F.stage)):=rfl
theorem fr3:(frC F lp br)[3]?=some (.v (.int .i64 F.index)):=rfl
theorem fr12:(frC F lp br)[12]?=some (.v (.bool F.dirty)):=rfl
theorem fr13:(frC F lp br)[13]?=some (.v (.bool (decide (F.kind=2)))):=rfl
theorem fr22:(frC F lp br)[22]?=some (.v (.bool br)):=rfl
theorem frR:cellsA (some 8) ((frC F lp br).drop 4)=some (.agg (aRg F.regs)):=rfl
theorem frL:cellsA (some 8) ((frC F lp br).drop 14)=some (.agg (aRg lp)):=rfl
theorem frs1 (x:Int):(frC F lp br).set 1 (.v (.int .i64 x))=frC { F with pc:=x } lp br:=rfl
theorem frs2 (x:Int):(frC F lp br).set 2 (.v (.int .i64 x))=frC { F with stage:=x } lp br:=rfl
theorem frs12 (x:Bool):(frC F lp br).set 12 (.v (.bool x))=frC { F with dirty:=x } lp br:=rfl
theorem frs22 (x:Bool):(frC F lp br).set 22 (.v (.bool x))=frC F lp x:=rfl
theorem frsR (rs:List Int):setAtA (frC F lp br) 4 (aRg rs)=frC { F with regs:=rs } lp br:=rfl
theorem frsL (rs:List Int):setAtA (frC F lp br) 14 (aRg rs)=frC F rs br:=rfl
theorem Q25:(frC F lp br).length=23:=rfl
end
theorem Q04 (rs:List Int):(aRg rs).all AV.one=true:=rfl
section
variable {m:Int} {fs:List (List Ix)} {fuel:Int} {σ:Kx.St} {iv fi:Nat} {t:DvT} {s:Sv} {F:Sf} {lp:List Int} {br:Bool}
theorem DvAt.dset (h:DvAt σ iv m fs fuel t s) {d:List Int} (hd:d.length=s.data.length):DvAt (σ.set t.j (.obj 0 (d.map aInt))) iv m fs fuel t { s with data:=d }:=by
 have e:dvC m fs fuel t { s with data:=d }=dvC m fs fuel t s:=by simp[dvC,hd]
 exact ⟨by rw[e];exact Q0 h.nj h.obj,Q4 h.dat,h.nj,h.o.set h.dat,h.m.set h.dat,h.d⟩
set_option maxHeartbeats 32000000 in
theorem ev_memory_a (h:DvAt σ iv m fs fuel t s) (hs:s.status=0) (hf:σ[fi]?=some (.obj 0 (frC F lp br))) (h1:fi≠iv) (h2:fi≠t.j) (pc:Int) (rs:List Int) (hr:rs.length=8) (e:Ef) (he:1≤e.k∧e.k≤4)
  (hm:s.marks.length≤1000000) (hdl:s.data.length≤1000000):
  FnG Tryz.prog 48 [.ref iv 0 0,.ref fi 0 0,.v (.int .i64 pc),.agg (aRg rs),.agg (aEf e)] σ fun r σ'=>r=.tup []∧∃t',t'.j=t.j∧Kp σ σ' (fun k=>k=iv∨k=fi∨k=t.j) ∧
   (((askD s.data e).2.1=true∧DvAt σ' iv m fs fuel t' (({ s with data:=(askD s.data e).2.2 }:Sv).mark (if e.k=1 then 1 else 2) e.at_)∧σ'[fi]?=some (.obj 0 (frC { F with pc:=pc,regs:=tookR rs e (askD s.data e).1 } lp br))) ∨
    ((askD s.data e).2.1=false∧DvAt σ' iv m fs fuel t' (s.stop 4 2)∧σ'[fi]?=some (.obj 0 (frC F lp br)))):=by
 refine Qk Zb mixed rfl ?_
 simp only[QW]
 have har:(AV.agg (aRg rs)).cells=aRg rs:=rfl
 have hae:(AV.agg (aEf e)).cells=aEf e:=rfl
 have g0:(aEf e)[0]?=some (.v (.int .i64 e.k)):=rfl
 have g1:(aEf e)[1]?=some (.v (.int .i64 e.at_)):=rfl
 have g2:(aEf e)[2]?=some (.v (.int .i64 e.v)):=rfl
 have g3:(aEf e)[3]?=some (.v (.int .i64 e.o)):=rfl
 refine Q1 (fun ε σ1=>∃A B,(ε 0=.ref iv 0 0∧ε 1=.ref fi 0 0∧ε 2=.v (.int .i64 pc)∧ε 8=.ref A 0 0∧ε 9=.ref B 0 0)∧DvAt σ1 iv m fs fuel t s∧σ1[fi]?=some (.obj 0 (frC F lp br))∧σ1[A]?=some (.obj 0 (aRg rs))∧σ1[B]?=some (.obj 0 (aEf e)) ∧
   (A≠iv∧A≠t.j∧A≠fi∧B≠iv∧B≠t.j∧B≠fi)∧Kp σ σ1 (fun k=>k=iv∨k=fi∨k=t.j)) ?_ ?_
 ·intro N X R hN
  push_cast (disch:=omega)
  refine Qd ?_
  push_cast (disch:=omega)[har]
  refine Qd ?_
  push_cast (disch:=omega)[hae]
  have a1:=Qm h.obj
  have a2:=Qm h.dat
  have a3:=Qm hf
  refine hN _ _ ⟨σ.length,(σ++[Res.obj 0 (aRg rs)]).length,by push_cast (disch:=omega),(h.app _).app _,Q7 (Q7 hf),Q7 (Qn _ _),Qn _ _,?_,(Kp.app _ _ _).trans (Kp.app _ _ _)⟩
  simp only[List.length_append,List.length_singleton]
  omega
 rintro ε σ1 ⟨A,B,hρ,hD,hf1,hA,hB,⟨nA1,nA2,nA3,nB1,nB2,nB3⟩,hK⟩
 have ho:=hD.obj
 have d2:(dvC m fs fuel t s)[2]?=some (.ms t.j 0 0 s.data.length 1):=rfl
 by_cases hin:e.at_ < 0∨(s.data.length:Int)≤e.at_
 ·have hask:askD s.data e=(0,false,s.data):=by unfold askD;rw[if_pos hin]
  rw[hask]
  refine Qg (fun ε σ=>False) ?_ (fun _ _ h=>h.elim)
  intro N hN
  have hst:=Z39 hD hs 4 2
  by_cases c0:e.at_ < 0
  ·push_cast (disch:=omega)[hρ,hB,g1,c0]
   refine Q2 hst ?_
   rintro a σ' ⟨rfl,hD',hK'⟩
   push_cast (disch:=omega)[hρ]
   exact ⟨t,rfl,hK.trans (hK'.weak fun k hk=>.inl hk),.inr ⟨hD',hK'.2 fi _ h1 hf1⟩⟩
  ·have c1:(s.data.length:Int)≤e.at_:=by omega
   push_cast (disch:=omega)[hρ,hB,g1,c0,ho,d2,c1]
   refine Q2 hst ?_
   rintro a σ' ⟨rfl,hD',hK'⟩
   push_cast (disch:=omega)[hρ]
   exact ⟨t,rfl,hK.trans (hK'.weak fun k hk=>.inl hk),.inr ⟨hD',hK'.2 fi _ h1 hf1⟩⟩
 have c0:¬e.at_ < 0:=fun c=>hin (.inl c)
 have c1:¬(s.data.length:Int)≤e.at_:=fun c=>hin (.inr c)
 obtain ⟨i,hi⟩:∃i:Nat,e.at_=i:=⟨e.at_.toNat,by omega⟩
 have hil:i < s.data.length:=by omega
 obtain ⟨w,hw⟩:=Ql hil
 have hgd:s.data.getD i 0=w:=by rw[List.getD_eq_getElem?_getD,hw];rfl
 have hda:=hD.dat
 have hwm:(s.data.map aInt)[i]?=some (.v (.int .i64 w)):=by rw[List.getElem?_map,hw];rfl
 rw[hi] at c0 c1 g1
 refine Q1 (fun ε σ'=>(ε 0=.ref iv 0 0∧ε 1=.ref fi 0 0∧ε 2=.v (.int .i64 pc)∧ε 8=.ref A 0 0∧ε 9=.ref B 0 0)∧σ'=σ1) ?_ ?_
 ·intro N X R hN
  push_cast (disch:=omega)[hρ,hB,g1,c0,ho,d2,c1]
  exact hN _ _ ⟨by push_cast (disch:=omega)[hρ],rfl⟩
 clear hρ ε
 rintro ε σ' ⟨hρ,e1⟩
 rw[e1]
 clear e1 σ'
 refine Q1 (fun ε σ'=>(ε 0=.ref iv 0 0∧ε 1=.ref fi 0 0∧ε 2=.v (.int .i64 pc)∧ε 8=.ref A 0 0∧ε 9=.ref B 0 0∧ε 10=.v (.int .i64 w))∧σ'=σ1) ?_ ?_
 ·intro N X R hN
  push_cast (disch:=omega)[hρ,hB,g1,ho,d2,hda,hwm]
  exact hN _ _ ⟨by push_cast (disch:=omega)[hρ],rfl⟩
 clear hρ ε
 rintro ε σ' ⟨hρ,e1⟩
 rw[e1]
 clear e1 σ'
 refine Q1 (fun ε σ'=>(ε 0=.ref iv 0 0∧ε 1=.ref fi 0 0∧ε 2=.v (.int .i64 pc)∧ε 8=.ref A 0 0∧ε 9=.ref B 0 0∧ε 10=.v (.int .i64 w)∧ε 11=.v (.int .i64 2))∧σ'=σ1) ?_ ?_
 ·intro N X R hN
  push_cast (disch:=omega)[hρ]
  exact hN _ _ ⟨by push_cast (disch:=omega)[hρ],rfl⟩
 clear hρ ε
 rintro ε σ' ⟨hρ,e1⟩
 rw[e1]
 clear e1 σ'
 refine Q1 (fun ε σ'=>∃d:List Int,(ε 0=.ref iv 0 0∧ε 1=.ref fi 0 0∧ε 2=.v (.int .i64 pc)∧ε 8=.ref A 0 0∧ε 9=.ref B 0 0∧ε 10=.v (.int .i64 w)∧ε 11=.v (.int .i64 (if e.k=1 then 1 else 2))) ∧
   DvAt σ' iv m fs fuel t { s with data:=d }∧σ'[fi]?=some (.obj 0 (frC F lp br))∧σ'[A]?=some (.obj 0 (aRg rs))∧σ'[B]?=some (.obj 0 (aEf e))∧Kp σ σ' (fun k=>k=iv∨k=fi∨k=t.j) ∧
   (askD s.data e).2=(true,d)∧tookR rs e (askD s.data e).1=tookR rs e w) ?_ ?_
 ·intro N X R hN
  have hask:askD s.data e=if e.k=1 then (w,true,s.data) else if e.k=2 then (0,true,s.data.set i e.v) else if e.k=3 then (w,true,s.data.set i (IntKind.i64.wrap (w+e.v))) else if e.k=4 then (w,true,if w=e.v then s.data.set i e.o else s.data) else (0,false,s.data):=by
   unfold askD
   rw[if_neg hin,hi]
   simp only[Int.toNat_natCast,hgd]
  have hput:∀v:Int,∃σ',σ'=σ1.set t.j (.obj 0 ((s.data.map aInt).set i (.v (.int .i64 v))))∧DvAt σ' iv m fs fuel t { s with data:=s.data.set i v }∧σ'[fi]?=some (.obj 0 (frC F lp br))∧σ'[A]?=some (.obj 0 (aRg rs))∧σ'[B]?=some (.obj 0 (aEf e))∧Kp σ σ' (fun k=>k=iv∨k=fi∨k=t.j):=by
   intro v
   refine ⟨_,rfl,?_,Q0 (Ne.symm h2) hf1,Q0 (Ne.symm nA2) hA,Q0 (Ne.symm nB2) hB,hK.trans (Kp.set (.inr (.inr rfl)) _)⟩
   have:=hD.dset (d:=s.data.set i v) (by simp)
   rw[List.map_set] at this
   exact this
  have hlm:i < (s.data.map aInt).length:=by simpa using hil
  by_cases k1:e.k=1
  ·rw[if_pos k1] at hN hask
   push_cast (disch:=omega)[hρ,hB,g0,k1]
   exact hN _ _ ⟨s.data,by push_cast (disch:=omega)[hρ],hD,hf1,hA,hB,hK,by rw[hask],by rw[hask]⟩
  rw[if_neg k1] at hN hask
  by_cases k2:e.k=2
  ·rw[if_pos k2] at hask
   obtain ⟨σ',e1,q1,q2,q3,q4,q5⟩:=hput e.v
   push_cast (disch:=omega)[hρ,hB,g0,k1,k2,ho,d2,g1,g2]
   refine Q6 rfl rfl hda hlm ?_
   rw[←e1]
   push_cast (disch:=omega)[hρ]
   refine hN _ _ ⟨_,by push_cast (disch:=omega)[hρ],q1,q2,q3,q4,q5,by rw[hask],?_⟩
   unfold tookR
   rw[if_neg (by omega),if_neg (by omega),if_neg (by omega),if_neg (by omega)]
  rw[if_neg k2] at hask
  by_cases k3:e.k=3
  ·rw[if_pos k3] at hask
   obtain ⟨σ',e1,q1,q2,q3,q4,q5⟩:=hput (IntKind.i64.wrap (w+e.v))
   push_cast (disch:=omega)[hρ,hB,g0,k1,k2,k3,ho,d2,g1,g2]
   refine Q6 rfl rfl hda hlm ?_
   rw[←e1]
   push_cast (disch:=omega)[hρ]
   exact hN _ _ ⟨_,by push_cast (disch:=omega)[hρ],q1,q2,q3,q4,q5,by rw[hask],by rw[hask]⟩
  rw[if_neg k3] at hask
  have k4:e.k=4:=by omega
  rw[if_pos k4] at hask
  by_cases cw:w=e.v
  ·rw[if_pos cw] at hask
   obtain ⟨σ',e1,q1,q2,q3,q4,q5⟩:=hput e.o
   push_cast (disch:=omega)[hρ,hB,g0,k1,k2,k3,k4,ho,d2,g1,g2,g3,cw]
   refine Q6 rfl rfl hda hlm ?_
   rw[←e1]
   push_cast (disch:=omega)[hρ]
   exact hN _ _ ⟨_,by push_cast (disch:=omega)[hρ,cw],q1,q2,q3,q4,q5,by rw[hask],by rw[hask]⟩
  ·rw[if_neg cw] at hask
   push_cast (disch:=omega)[hρ,hB,g0,k1,k2,k3,k4,g2,cw]
   exact hN _ _ ⟨s.data,by push_cast (disch:=omega)[hρ],hD,hf1,hA,hB,hK,by rw[hask],by rw[hask]⟩
 clear hρ ε ho hf1 hA hB hK hD hda
 rintro ε σ2 ⟨d,hρ,hD,hf1,hA,hB,hK,hask,htk⟩
 have a1:(askD s.data e).2.1=true:=by rw[hask]
 have a2:(askD s.data e).2.2=d:=by rw[hask]
 rw[a2,htk]
 refine Q1 (fun ε σ'=>(ε 1=.ref fi 0 0∧ε 2=.v (.int .i64 pc)∧ε 8=.ref A 0 0∧ε 9=.ref B 0 0∧ε 10=.v (.int .i64 w))∧∃t',t'.j=t.j∧DvAt σ' iv m fs fuel t' (({ s with data:=d }:Sv).mark (if e.k=1 then 1 else 2) e.at_) ∧
   σ'[fi]?=some (.obj 0 (frC F lp br))∧σ'[A]?=some (.obj 0 (aRg rs))∧σ'[B]?=some (.obj 0 (aEf e))∧Kp σ σ' (fun k=>k=iv∨k=fi∨k=t.j)) ?_ ?_
 ·intro N X R hN
  rw[←hi] at g1
  push_cast (disch:=omega)[hρ,hB,g1]
  refine Q2 (QP hD hm _ _) ?_
  rintro a σ' ⟨rfl,t',tj,hD',hK'⟩
  push_cast (disch:=omega)[hρ]
  exact hN _ _ ⟨by push_cast (disch:=omega)[hρ],t',tj,hD',hK'.2 fi _ h1 hf1,hK'.2 A _ nA1 hA,hK'.2 B _ nB1 hB,hK.trans (hK'.weak fun k hk=>.inl hk)⟩
 clear hρ ε hD hf1 hA hB hK σ2
 rintro ε σ2 ⟨hρ,t',tj,hD,hf1,hA,hB,hK⟩
 refine Q1 (fun ε σ'=>(ε 1=.ref fi 0 0∧ε 8=.ref A 0 0∧ε 9=.ref B 0 0∧ε 10=.v (.int .i64 w))∧DvAt σ' iv m fs fuel t' (({ s with data:=d }:Sv).mark (if e.k=1 then 1 else 2) e.at_) ∧
   σ'[fi]?=some (.obj 0 (frC { F with pc:=pc } lp br))∧σ'[A]?=some (.obj 0 (aRg rs))∧σ'[B]?=some (.obj 0 (aEf e))∧Kp σ σ' (fun k=>k=iv∨k=fi∨k=t.j)) ?_ ?_
 ·intro N X R hN
  push_cast (disch:=omega)[hρ]
  refine Q6 rfl rfl hf1 (by rw[Q25];decide) ?_
  rw[frs1]
  push_cast (disch:=omega)[hρ]
  exact hN _ _ ⟨by push_cast (disch:=omega)[hρ],hD.setO hf1 h1 (by rw[tj];exact h2),Q4 hf1,Q0 (Ne.symm nA3) hA,Q0 (Ne.symm nB3) hB,hK.trans (Kp.set (.inr (.inl rfl)) _)⟩
 clear hρ ε hD hf1 hA hB hK σ2
 rintro ε σ2 ⟨hρ,hD,hf1,hA,hB,hK⟩
 push_cast (disch:=omega)[hρ,hA,hB,cells8,cells5]
 refine Q3 (ref08_Took_a rs e w hr) ?_
 rintro a rfl
 push_cast (disch:=omega)[hρ]
 refine Q5 rfl (Q04 _) hf1 (by rw[Q25];decide) ?_
 rw[frsR]
 push_cast (disch:=omega)[hρ]
 exact ⟨t',tj,hK.trans (Kp.set (.inr (.inl rfl)) _),.inl ⟨a1,hD.setO hf1 h1 (by rw[tj];exact h2),Q4 hf1⟩⟩
end
end Go.Proofs.YtncdnegdlkmicaaGreat.Sr
