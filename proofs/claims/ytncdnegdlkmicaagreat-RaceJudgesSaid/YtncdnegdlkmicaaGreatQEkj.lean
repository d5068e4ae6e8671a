/- The document's evaluator: Run: the walk. -/
import Derived.Test.YtncdnegdlkmicaaGreatQEki
import Derived.Test.YtncdnegdlkmicaaGreatQPrc
import Derived.Test.YtncdnegdlkmicaaGreatQNm
namespace Go.Proofs.YtncdnegdlkmicaaGreat.Sr
set_option linter.unusedVariables false
set_option linter.unusedSimpArgs false
open Go Go.Kx Go.Proofs
theorem setAtA_0 (cs xs:List AV) (h:xs.length≤cs.length):setAtA cs 0 xs=xs++cs.drop xs.length:=by
 apply List.ext_getElem?
 intro j
 rw[XN xs cs 0 (by omega)]
 by_cases hj:j < xs.length
 ·rw[if_pos (by omega),List.getElem?_append_left hj,Nat.sub_zero]
 ·rw[if_neg (by omega),List.getElem?_append_right (by omega),List.getElem?_drop]
  congr 1
  omega
def dvZ:List AV:=[.v (.int .i64 0),.sl 0 [] .nil,.sl 0 [] .nil,.sl 0 [] .nil,.sl 0 [] .nil,.v (.int .i64 0),.v (.int .i64 0),.v (.int .i64 0),.v (.int .i64 0),.v (.int .i64 0),.v (.int .i64 0),.v (.int .i64 0)]
def s00 (M:Nat):Sv:=⟨[],List.replicate M 0,[],0,0,0,[],0,0,0⟩
section
variable (m:Int) (fs:List (List Ix)) (inp:List Int) (fuel:Int) (hf:okF fs)
include hf
set_option maxHeartbeats 16000000 in
theorem Yw {σ:Kx.St} (hi:inp.length≤1000000) (he:runE m fs inp≠0):
  FnG Tryz.prog 15 [.agg (aPr m fs),aInts inp,aInt fuel] σ fun a σ'=>∃iv,a=.tup [.ref iv 0 0,aInt (runE m fs inp)]∧σ'[iv]?=some (.obj 0 dvZ)∧Kp σ σ' (fun _=>False):=by
 refine Z11 Q97 mixed rfl ?_
 simp only[Q05]
 have hac:(AV.agg (aPr m fs)).cells=aPr m fs:=rfl
 have p0:(aPr m fs)[0]?=some (.v (.int .i64 m)):=rfl
 have hII:aInts inp=.sl inp.length (inp.map aInt) .none:=rfl
 have hbl:fillA [AV.v (.int .i64 0),.sl 0 [] .nil,.sl 0 [] .nil,.sl 0 [] .nil,.sl 0 [] .nil,AV.v (.int .i64 0),AV.v (.int .i64 0),AV.v (.int .i64 0),AV.v (.int .i64 0),AV.v (.int .i64 0),AV.v (.int .i64 0),AV.v (.int .i64 0)] [] []=some dvZ:=rfl
 have hbc:(AV.agg dvZ).cells=dvZ:=rfl
 refine Q1 (fun ε σ1=>(ε 1=aInts inp∧ε 3=.ref σ.length 0 0)∧σ1=σ++[.obj 0 (aPr m fs)]) ?_ ?_
 ·intro N X R hN
  push_cast (disch:=omega)
  refine Qd ?_
  push_cast (disch:=omega)[hac]
  exact hN _ _ ⟨by push_cast (disch:=omega),rfl⟩
 rintro ε σ1 ⟨hρ,e1⟩
 have hb:=Qn σ (Res.obj 0 (aPr m fs))
 have hK0:Kp σ (σ++[Res.obj 0 (aPr m fs)]) (fun _=>False):=Kp.app _ _ _
 rw[e1]
 clear e1 σ1
 generalize σ++[Res.obj 0 (aPr m fs)]=S at hb hK0
 refine Q1 (fun ε σ1=>(ε 1=aInts inp∧ε 3=.ref σ.length 0 0∧ε 8=.v (.int .i64 (prgE m fs)))∧σ1=S) ?_ ?_
 ·intro N X R hN
  push_cast (disch:=omega)[hρ,hb,cellsPr]
  refine Q3 (XH m fs hf) ?_
  rintro a rfl
  push_cast (disch:=omega)[hρ,aInt]
  exact hN _ _ ⟨by push_cast (disch:=omega)[hρ],rfl⟩
 clear hρ ε
 rintro ε σ1 ⟨hρ,e1⟩
 rw[e1]
 clear e1 σ1
 have fin:∀(n:Int),n=runE m fs inp→∃iv,AV.tup [.ref S.length 0 0,.v (.int .i64 n)]=.tup [.ref iv 0 0,aInt (runE m fs inp)]∧(S++[Res.obj 0 dvZ])[iv]?=some (.obj 0 dvZ)∧Kp σ (S++[Res.obj 0 dvZ]) (fun _=>False):=by
  rintro n rfl
  exact ⟨S.length,rfl,Qn _ _,hK0.trans (Kp.app _ _ _)⟩
 by_cases hp:prgE m fs=0
 ·have hr:runE m fs inp=9∧m < inp.length:=by
   unfold runE at he ⊢
   rw[if_neg (by simpa using hp)] at he ⊢
   by_cases c:m < inp.length
   ·rw[if_pos c];exact ⟨rfl,c⟩
   ·rw[if_neg c] at he;exact absurd rfl he
  refine Q1 (fun ε σ1=>(ε 1=aInts inp∧ε 3=.ref σ.length 0 0)∧σ1=S) ?_ ?_
  ·intro N X R hN
   push_cast (disch:=omega)[hρ,hp]
   exact hN _ _ ⟨by push_cast (disch:=omega)[hρ],rfl⟩
  clear hρ ε
  rintro ε σ1 ⟨hρ,e1⟩
  rw[e1]
  clear e1 σ1
  have hlt:=hr.2
  refine Qg (fun ε σ=>False) ?_ (fun _ _ h=>h.elim)
  intro N hN
  push_cast (disch:=omega)[hρ,hII,hb,p0,hlt,hbl]
  refine Qd ?_
  push_cast (disch:=omega)[hbc]
  exact fin 9 hr.1.symm
 ·have hr:runE m fs inp=prgE m fs:=by unfold runE;rw[if_pos (by simpa using hp)]
  refine Qg (fun ε σ=>False) ?_ (fun _ _ h=>h.elim)
  intro N hN
  push_cast (disch:=omega)[hρ,hp,hbl]
  refine Qd ?_
  push_cast (disch:=omega)[hρ,hbc]
  exact fin _ hr.symm
set_option maxHeartbeats 32000000 in
theorem ref29_Run_ok {σ:Kx.St} (hp:prgE m fs=0) (hi:(inp.length:Int)≤m) (h64:R64 inp):
  FnG Tryz.prog 15 [.agg (aPr m fs),aInts inp,aInt fuel] σ fun a σ'=>∃iv t s',a=.tup [.ref iv 0 0,aInt 0]∧s'.e=(runS m fs inp (fuelN fuel)).e∧DvAt σ' iv m fs (fuelN fuel) t s'∧Kp σ σ' (fun _=>False):=by
 obtain ⟨hm,hmany,hfo⟩:=prg_ok hp
 have hn0:0 < fs.length:=by
  rcases Nat.eq_zero_or_pos fs.length with h|h
  ·rw[h] at hmany;exact absurd hmany (by decide)
  ·exact h
 have hF:Fns fs:=⟨hfo,hf.1⟩
 show FnG _ _ (.agg [.v (.int .i64 m),.sl fs.length (fs.map aIxs) .none]::[aInts inp,aInt fuel]) σ _
 refine FnG.named 1 hn0 ?_
 refine Z11 Q97 mixed rfl ?_
 simp only[Q05]
 have hK00:Kp σ (σ++[Res.dead]) (fun _=>False):=Kp.app _ _ _
 generalize hS0:σ++[Res.dead]=S0 at hK00
 generalize hP:[AV.v (.int .i64 m),.sl fs.length (fs.map aIxs) (.id σ.length 0 1)]=Pn
 have hPe:(AV.agg Pn).exact=true:=by rw[←hP];rfl
 have hac:(AV.agg Pn).cells=Pn:=rfl
 have p0:Pn[0]?=some (.v (.int .i64 m)):=by rw[←hP];rfl
 have hc2:cellsA (some 2) Pn=some (.agg Pn):=by rw[←hP];rfl
 have hwk:∀S:Kx.St,weak S [true] [.agg Pn]=[.agg (aPr m fs)]:=by
  intro S
  have h:=aFs_res S fs (.id σ.length 0 1)
  have h2:AV.resL S Pn=aPr m fs:=by
   rw[←hP]
   simp only[AV.resL]
   rw[h]
   rfl
  show [AV.agg (AV.resL S Pn)]=_
  rw[h2]
 have hII:aInts inp=.sl inp.length (inp.map aInt) .none:=rfl
 obtain ⟨M,rfl⟩:∃M:Nat,m=M:=⟨m.toNat,by omega⟩
 have hM:M≤256:=by omega
 have hiM:inp.length≤M:=by omega
 have hFd:min (max fuel 0) 100000=(fuelN fuel:Int):=by unfold fuelN;omega
 have hFl:fuelN fuel≤100000:=by unfold fuelN;omega
 refine Q1 (fun ε σ1=>(ε 1=aInts inp∧ε 2=.v (.int .i64 fuel)∧ε 3=.ref S0.length 0 0)∧σ1=S0++[.obj 0 Pn]) ?_ ?_
 ·intro N X R hN
  push_cast (disch:=omega)[aInt]
  refine Qd ?_
  push_cast (disch:=omega)[hac]
  exact hN _ _ ⟨by push_cast (disch:=omega),rfl⟩
 rintro ε σ1 ⟨hρ,e1⟩
 have hb:=Qn S0 (Res.obj 0 Pn)
 have hK0:=hK00.trans (Kp.app S0 (Res.obj 0 Pn) _)
 rw[e1]
 clear e1 σ1
 generalize S0++[Res.obj 0 Pn]=S at hb hK0
 generalize S0.length=pI at hρ hb
 refine Q1 (fun ε σ1=>(ε 1=aInts inp∧ε 2=.v (.int .i64 fuel)∧ε 3=.ref pI 0 0∧ε 8=.v (.int .i64 0))∧σ1=S) ?_ ?_
 ·intro N X R hN
  push_cast (disch:=omega)[hρ,hb,hc2]
  refine Q00 [] [true] (XH M fs hf) (hwk _) ?_
  rintro a rfl
  push_cast (disch:=omega)[hρ,aInt,hp]
  exact hN _ _ ⟨by push_cast (disch:=omega)[hρ],rfl⟩
 clear hρ ε
 rintro ε σ1 ⟨hρ,e1⟩
 rw[e1]
 clear e1 σ1
 refine Q1 (fun ε σ1=>(ε 1=aInts inp∧ε 2=.v (.int .i64 fuel)∧ε 3=.ref pI 0 0)∧σ1=S) ?_ ?_
 ·intro N X R hN
  push_cast (disch:=omega)[hρ]
  exact hN _ _ ⟨by push_cast (disch:=omega)[hρ],rfl⟩
 clear hρ ε
 rintro ε σ1 ⟨hρ,e1⟩
 rw[e1]
 clear e1 σ1
 refine Q1 (fun ε σ1=>(ε 1=aInts inp∧ε 2=.v (.int .i64 fuel)∧ε 3=.ref pI 0 0)∧σ1=S) ?_ ?_
 ·intro N X R hN
  have c2:¬(M:Int) < inp.length:=by omega
  push_cast (disch:=omega)[hρ,hII,hb,p0,c2]
  exact hN _ _ ⟨by push_cast (disch:=omega)[hρ,hII],rfl⟩
 clear hρ ε
 rintro ε σ1 ⟨hρ,e1⟩
 rw[e1]
 clear e1 σ1
 have hdv:dvC M fs (fuelN fuel) ⟨.id σ.length 0 1,S.length,.nil,.nil⟩ (s00 M)=[.v (.int .i64 M),.sl fs.length (fs.map aIxs) (.id σ.length 0 1),.ms S.length 0 0 M 1,.sl 0 [] .nil,.sl 0 [] .nil,.v (.int .i64 0),.v (.int .i64 (fuelN fuel)),.v (.int .i64 0),.v (.int .i64 0),.v (.int .i64 0),.v (.int .i64 0),.v (.int .i64 0)]:=by
  simp[dvC,s00]
 have hfill:fillA [AV.v (.int .i64 0),.sl 0 [] .nil,.sl 0 [] .nil,.sl 0 [] .nil,.sl 0 [] .nil,AV.v (.int .i64 0),AV.v (.int .i64 0),AV.v (.int .i64 0),AV.v (.int .i64 0),AV.v (.int .i64 0),AV.v (.int .i64 0),AV.v (.int .i64 0)] [(0,2),(2,1),(6,1)] [.agg Pn,.ms S.length 0 0 M 1,.v (.int .i64 (fuelN fuel))] =
   some (dvC M fs (fuelN fuel) ⟨.id σ.length 0 1,S.length,.nil,.nil⟩ (s00 M)):=by rw[hdv,←hP];rfl
 have hdc:(AV.agg (dvC M fs (fuelN fuel) ⟨.id σ.length 0 1,S.length,.nil,.nil⟩ (s00 M))).cells=dvC M fs (fuelN fuel) ⟨.id σ.length 0 1,S.length,.nil,.nil⟩ (s00 M):=rfl
 have hz:repA [AV.v (.int .i64 0)] M=(s00 M).data.map aInt:=by
  rw[X23]
  show _=(List.replicate M 0).map aInt
  rw[List.map_replicate]
  rfl
 refine Q1 (fun ε σ1=>(ε 1=aInts inp∧ε 9=.ref (S++[Res.obj 0 ((s00 M).data.map aInt)]).length 0 0)∧σ1=S++[Res.obj 0 ((s00 M).data.map aInt)]++[.obj 0 (dvC M fs (fuelN fuel) ⟨.id σ.length 0 1,S.length,.nil,.nil⟩ (s00 M))]) ?_ ?_
 ·intro N X R hN
  push_cast (disch:=omega)[hρ,hb,hc2,p0,hFd]
  refine Y9 rfl (by omega) (by omega) ?_
  push_cast (disch:=omega)[hρ,hz]
  refine ⟨Q8 ⟨by push_cast (disch:=omega)[hρ,Q7 hb,hc2],by push_cast (disch:=omega)[hPe]⟩,?_⟩
  push_cast (disch:=omega)[hρ,hfill]
  refine Qd ?_
  push_cast (disch:=omega)[hdc]
  exact hN _ _ ⟨by push_cast (disch:=omega)[hρ],rfl⟩
 clear hρ ε
 rintro ε σ1 ⟨hρ,e1⟩
 rw[e1]
 clear e1 σ1
 generalize hT:(⟨.id σ.length 0 1,S.length,.nil,.nil⟩:DvT)=T at hρ
 have hTj:T.j=S.length:=by rw[←hT]
 have hdat:(S++[Res.obj 0 ((s00 M).data.map aInt)]++[Res.obj 0 (dvC M fs (fuelN fuel) T (s00 M))])[T.j]?=some (.obj 0 ((s00 M).data.map aInt)):=by rw[hTj];exact Q7 (Qn _ _)
 have hobj:=Qn (S++[Res.obj 0 ((s00 M).data.map aInt)]) (Res.obj 0 (dvC M fs (fuelN fuel) T (s00 M)))
 have hK1:=(hK0.trans (Kp.app S (Res.obj 0 ((s00 M).data.map aInt)) _)).trans (Kp.app _ (Res.obj 0 (dvC M fs (fuelN fuel) T (s00 M))) _)
 have hnj:T.j≠(S++[Res.obj 0 ((s00 M).data.map aInt)]).length:=by rw[hTj];simp
 have hD:DvAt (S++[Res.obj 0 ((s00 M).data.map aInt)]++[Res.obj 0 (dvC M fs (fuelN fuel) T (s00 M))]) (S++[Res.obj 0 ((s00 M).data.map aInt)]).length M fs (fuelN fuel) T (s00 M):=
  ⟨hobj,hdat,hnj,.inl ⟨rfl,by rw[←hT]⟩,.inl ⟨rfl,by rw[←hT]⟩,by rw[←hT];intro j w s k v u h;cases h⟩
 have hSl:σ.length≤S.length:=hK0.1
 have hivl:σ.length≤(S++[Res.obj 0 ((s00 M).data.map aInt)]).length:=by simp;omega
 generalize (S++[Res.obj 0 ((s00 M).data.map aInt)]).length=iv at hρ hobj hnj hD hivl
 generalize S++[Res.obj 0 ((s00 M).data.map aInt)]++[Res.obj 0 (dvC M fs (fuelN fuel) T (s00 M))]=S1 at hdat hobj hK1 hD
 have hset:setAtA ((s00 M).data.map aInt) 0 (inp.map aInt)=(inp++List.replicate (M - inp.length) 0).map aInt:=by
  rw[setAtA_0 _ _ (by simp[s00];exact hiM)]
  simp[s00]
 refine Q1 (fun ε σ1=>ε 9=.ref iv 0 0∧DvAt σ1 iv M fs (fuelN fuel) T { s00 M with data:=inp++List.replicate (M - inp.length) 0 }∧Kp σ σ1 (fun _=>False)) ?_ ?_
 ·intro N X R hN
  have d2:(dvC M fs (fuelN fuel) T (s00 M))[2]?=some (.ms T.j 0 0 M 1):=by
   have:(s00 M).data.length=M:=by simp[s00]
   show some (AV.ms T.j 0 0 (s00 M).data.length 1)=_
   rw[this]
  have hd2:=hD.dset (d:=inp++List.replicate (M - inp.length) 0) (by simp[s00];omega)
  push_cast (disch:=omega)[hρ,hobj,d2,hII]
  refine wpa_cpy (m:=inp.length) (news:=inp.map aInt) rfl rfl (by simp) (by rw[List.all_map];exact List.all_eq_true.2 fun _ _=>rfl) hiM hdat (by simp[s00];omega) ?_
  rw[hset]
  push_cast (disch:=omega)[hρ]
  exact hN _ _ ⟨by push_cast (disch:=omega)[hρ],hd2,hK1.drop (Kp.set (S:=fun j=>j=T.j) rfl _) (fun j hj=>.inr (by omega))⟩
 clear hρ ε hD hobj hdat hK1
 rintro ε σ1 ⟨hρ,hD,hK1⟩
 have hbl:fillA [AV.v (.int .i64 0),AV.v (.int .i64 0),AV.v (.int .i64 0),AV.v (.int .i64 0),AV.v (.int .i64 0),AV.v (.int .i64 0),AV.v (.int .i64 0),AV.v (.int .i64 0),AV.v (.int .i64 0),AV.v (.int .i64 0),AV.v (.int .i64 0),AV.v (.int .i64 0),AV.v (.bool false),AV.v (.bool false),AV.v (.int .i64 0),AV.v (.int .i64 0),AV.v (.int .i64 0),AV.v (.int .i64 0),AV.v (.int .i64 0),AV.v (.int .i64 0),AV.v (.int .i64 0),AV.v (.int .i64 0),AV.v (.bool false)]
   [] []=some (frC ⟨1,0,0,z8,false,0,0,0⟩ z8 false):=rfl
 have hbc:(AV.agg (frC ⟨1,0,0,z8,false,0,0,0⟩ z8 false)).cells=frC ⟨1,0,0,z8,false,0,0,0⟩ z8 false:=rfl
 have hIv:Iv fs M 0 (initS M inp):=by
  refine ⟨init_wf hF hn0 M inp,Yj M inp hi,fun f hf=>?_,?_⟩
  ·have:f=⟨1,0,0,z8,false,0,0,0⟩:=by simpa[initS,Sv.push] using hf
   subst this
   exact r64_z8
  ·intro n hn
   have hn:n∈inp++List.replicate ((M:Int).toNat - inp.length) 0:=hn
   rcases List.mem_append.1 hn with hn|hn
   ·exact h64 n hn
   ·rw[List.eq_of_mem_replicate hn];exact Q23 (by omega) (by omega)
 have hrun:=(sboth (m:=M) (d:=M) (N:=fuelN fuel) hF hFl (by omega) (fuelN fuel)).1 (σ1++[Res.obj 0 (frC ⟨1,0,0,z8,false,0,0,0⟩ z8 false)]) iv σ1.length T (initS M inp) ⟨1,0,0,z8,false,0,0,0⟩ [] z8 0 0 1 0
  ((hD.app _).e rfl) rfl rfl rfl (Qn _ _) (by have:=Qm hD.obj;omega) (by have:=Qm hD.dat;omega) rfl rfl hIv (by omega) (.inl ⟨rfl,rfl⟩)
 have hLx:runS M fs inp (fuelN fuel)=Lx fs (fuelN fuel) (initS M inp):=Lx_loop _ _ rfl
 rw[hLx]
 refine Q1 (fun ε σ2=>ε 9=.ref iv 0 0∧Kp σ σ2 (fun _=>False)∧∃t s',DvAt σ2 iv M fs (fuelN fuel) t s'∧((s'.status≠0∧s'.e=(Lx fs (fuelN fuel) (initS M inp)).e)∨(s'.status=0∧(s'.stop 1 0).e=(Lx fs (fuelN fuel) (initS M inp)).e))) ?_ ?_
 ·intro N X R hN
  push_cast (disch:=omega)[hρ,hbl]
  refine Qd ?_
  push_cast (disch:=omega)[hρ,hbc]
  refine Q2 hrun ?_
  rintro a σ2 ⟨rfl,t',s',u0,u1,u2,u3⟩
  have hK2:Kp σ σ2 (fun _=>False):=(hK1.trans (Kp.app σ1 (Res.obj 0 (frC ⟨1,0,0,z8,false,0,0,0⟩ z8 false)) _)).drop u1 (fun j hj=>.inr (by have:=hK1.1;rcases hj with c|c|c<;>omega))
  push_cast (disch:=omega)[hρ]
  refine hN _ _ ⟨by push_cast (disch:=omega)[hρ],hK2,t',s',u2,?_⟩
  rcases u3 with ⟨v1,v2,_⟩|⟨F',lp',br,_,w0,n3,k3,T2,w1,w2,w3,w4,w5⟩
  ·exact .inl ⟨v1,v2⟩
  ·rcases w5 with ⟨_,c,_⟩|⟨_,_,y1,y2⟩|⟨c,_⟩|⟨c,_⟩
   ·exact absurd rfl c
   ·exact .inr ⟨w0,by rw[w3,X58 n3 y1,y2]⟩
   ·exact absurd (show (1:Int)=2 from c) (by decide)
   ·exact absurd (show (1:Int)=2 from c) (by decide)
 clear hρ ε hD hK1 hrun
 rintro ε σ2 ⟨hρ,hK2,t,s',hD,hcase⟩
 refine Q1 (fun ε σ3=>ε 9=.ref iv 0 0∧Kp σ σ3 (fun _=>False)∧∃s',DvAt σ3 iv M fs (fuelN fuel) t s'∧s'.e=(Lx fs (fuelN fuel) (initS M inp)).e) ?_ ?_
 ·intro N X R hN
  rcases hcase with ⟨v1,v2⟩|⟨v1,v2⟩
  ·push_cast (disch:=omega)[hρ]
   refine Q2 (ev_stop_no hD v1 1 0) ?_
   rintro a σ3 ⟨rfl,e3⟩
   rw[e3]
   push_cast (disch:=omega)[hρ]
   exact hN _ _ ⟨by push_cast (disch:=omega)[hρ],hK2,s',hD,v2⟩
  ·push_cast (disch:=omega)[hρ]
   refine Q2 (Z39 hD v1 1 0) ?_
   rintro a σ3 ⟨rfl,q1,q2⟩
   push_cast (disch:=omega)[hρ]
   exact hN _ _ ⟨by push_cast (disch:=omega)[hρ],hK2.drop q2 (fun j hj=>.inr (by omega)),_,q1,v2⟩
 clear hρ ε hD hcase hK2
 rintro ε σ3 ⟨hρ,hK3,s2,hD,he⟩
 push_cast (disch:=omega)[hρ]
 exact ⟨iv,t,s2,rfl,he,hD,hK3⟩
end
end Go.Proofs.YtncdnegdlkmicaaGreat.Sr
