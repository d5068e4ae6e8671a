/- RaceJudges: the document's Judge: the walk. -/
import Derived.Test.YtncdnegdlkmicaaGreatQEkj
import Derived.Test.YtncdnegdlkmicaaGreatQYe
import Derived.Test.YtncdnegdlkmicaaGreatQRce
import Derived.Test.YtncdnegdlkmicaaGreatQRzb
import Derived.Test.YtncdnegdlkmicaaGreatQCRj
namespace Go.Proofs.YtncdnegdlkmicaaGreat.Sr
set_option linter.unusedVariables false
set_option linter.unusedSimpArgs false
open Go Go.Kx Go.Proofs
open Go.Proofs.YtncdnegdlkmicaaGreat.Rc (FindR RefR aRf aAcs judgeV cleanV toMk toMk_eq)
open Go.Proofs.YtncdnegdlkmicaaGreat.St (Ac aAc)
theorem find_ref {xss:List (List Int)} {l:List Ac} {r:Rc.Fd} {q:Int×Int×Int} (h:FindR xss l r) (k:RefR xss l q):r.ok=decide (0≤q.1):=by
 rcases h with ⟨a,rfl⟩|⟨a,b,rfl⟩|⟨a,b,p,c,rfl⟩<;>rcases k with ⟨a',rfl⟩|⟨a',b',rfl⟩|⟨a',b',p',c',rfl⟩
 ·rfl
 ·exact absurd a' a
 ·exact absurd a' a
 ·exact absurd a a'
 ·rfl
 ·exact absurd b b'
 ·exact absurd a a'
 ·exact absurd b' b
 ·have e:=c.uniq c'
  subst e
  cases p with
  | none=>rfl
  | some p=>exact (decide_eq_true (show (0:Int)≤(p.1:Int) by omega)).symm
structure VAt (σ:Kx.St) (iv:Nat) (c:List AV) (V:Sv):Prop where
 obj:σ[iv]?=some (.obj 0 c)
 st:c[10]?=some (.v (.int .i64 V.status))
 wy:c[11]?=some (.v (.int .i64 V.why))
 sp:c[7]?=some (.v (.int .i64 V.steps))
 ou:∃t,c[3]?=some (.sl V.out.length (V.out.map aInt) t)
 ms:∃t,c[4]?=some (.sl V.marks.length (V.marks.flatMap aMk) t)
 da:(V.data=[]∧c[2]?=some (.sl 0 [] .nil))∨∃j,c[2]?=some (.ms j 0 0 V.data.length 1)∧σ[j]?=some (.obj 0 (V.data.map aInt))
theorem VAt.kp {σ σ':Kx.St} {iv:Nat} {c:List AV} {V:Sv} (h:VAt σ iv c V) (k:Kp σ σ' (fun _=>False)):VAt σ' iv c V:=
 ⟨k.2 _ _ (fun h=>h) h.obj,h.st,h.wy,h.sp,h.ou,h.ms,h.da.imp (fun h=>h) fun ⟨j,a,b⟩=>⟨j,a,k.2 _ _ (fun h=>h) b⟩⟩
theorem VAt.keep {σ σ':Kx.St} {iv:Nat} {c:List AV} {V:Sv} (h:VAt σ iv c V) (k:∀j,j < σ.length→σ'[j]?=σ[j]?):VAt σ' iv c V:=
 ⟨(k _ (Qm h.obj)).trans h.obj,h.st,h.wy,h.sp,h.ou,h.ms,h.da.imp (fun h=>h) fun ⟨j,a,b⟩=>⟨j,a,(k _ (Qm b)).trans b⟩⟩
theorem kp_keep {σ σ':Kx.St} (k:∀j,j < σ.length→σ'[j]?=σ[j]?):Kp σ σ' (fun _=>False):=by
 refine ⟨?_,fun j cs _ h=>(k j (Qm h)).trans h⟩
 rcases Nat.lt_or_ge σ'.length σ.length with c|c
 ·obtain ⟨x,hx⟩:=Ql c
  have:=(k _ c).trans hx
  have:=Qm this
  omega
 ·exact c
section
variable (m:Int) (fs:List (List Ix)) (inp:List Int) (fuel:Int) (hf:okF fs)
include hf
theorem ref29_Run_V {σ:Kx.St} (hi:inp.length≤1000000) (h64:R64 inp):
  FnG Tryz.prog 15 [.agg (aPr m fs),aInts inp,aInt fuel] σ fun a σ'=>∃iv c,a=.tup [.ref iv 0 0,aInt (runE m fs inp)]∧VAt σ' iv c (runV m fs inp fuel)∧Kp σ σ' (fun _=>False):=by
 by_cases he:runE m fs inp=0
 ·have hp:prgE m fs=0:=by
   unfold runE at he
   by_cases c:prgE m fs=0
   ·exact c
   ·rw[if_pos c] at he;exact absurd he c
  have hle:(inp.length:Int)≤m:=by
   unfold runE at he
   rw[if_neg (by simpa using hp)] at he
   by_cases c:m < inp.length
   ·rw[if_pos c] at he;cases he
   ·omega
  refine (ref29_Run_ok m fs inp fuel hf hp hle h64).mono ?_
  rintro a σ' ⟨iv,t,s',rfl,e1,e2,e3⟩
  have hv:runV m fs inp fuel=runS m fs inp (fuelN fuel):=if_pos he
  have h2:s'.data=(runS m fs inp (fuelN fuel)).data:=by have:=congrArg Sv.data e1;exact this
  have h3:s'.out=(runS m fs inp (fuelN fuel)).out:=by have:=congrArg Sv.out e1;exact this
  have h4:s'.marks=(runS m fs inp (fuelN fuel)).marks:=by have:=congrArg Sv.marks e1;exact this
  have h5:s'.steps=(runS m fs inp (fuelN fuel)).steps:=by have:=congrArg Sv.steps e1;exact this
  have h8:s'.status=(runS m fs inp (fuelN fuel)).status:=by have:=congrArg Sv.status e1;exact this
  have h9:s'.why=(runS m fs inp (fuelN fuel)).why:=by have:=congrArg Sv.why e1;exact this
  rw[hv,he]
  exact ⟨iv,_,rfl,⟨e2.obj,by rw[←h8];rfl,by rw[←h9];rfl,by rw[←h5];rfl,⟨t.o,by rw[←h3];rfl⟩,⟨t.m,by rw[←h4];rfl⟩,.inr ⟨t.j,by rw[←h2];rfl,by rw[←h2];exact e2.dat⟩⟩,e3⟩
 ·have hv:runV m fs inp fuel=zS:=if_neg he
  refine (Yw m fs inp fuel hf hi he).mono ?_
  rintro a σ' ⟨iv,rfl,e1,e2⟩
  rw[hv]
  exact ⟨iv,_,rfl,⟨e1,rfl,rfl,rfl,⟨.nil,rfl⟩,⟨.nil,rfl⟩,.inl ⟨rfl,rfl⟩⟩,e2⟩
set_option maxHeartbeats 16000000 in
theorem YJ {σ:Kx.St} (hi:inp.length≤1000000) (h64:R64 inp) (hmk:(runV m fs inp fuel).marks.length≤8000)
  (hB1:∀ps∈(St.buildR (toMk (runV m fs inp fuel).marks)).2.preds,ps.length≤1000000) (hB2:(St.buildR (toMk (runV m fs inp fuel).marks)).2.preds.length≤1000000) (hB3:(St.buildR (toMk (runV m fs inp fuel).marks)).2.accs.length≤1000000)
  {r:Rc.Fd} (hr:FindR (St.buildR (toMk (runV m fs inp fuel).marks)).2.preds (St.buildR (toMk (runV m fs inp fuel).marks)).2.accs r):
  FnG Tryz.prog 8 [.agg (aPr m fs),aInts inp,aInt fuel] σ fun a σ'=>∃iv c,a=.tup [aInt (judgeV (runE m fs inp) (runV m fs inp fuel) (cleanV (St.buildR (toMk (runV m fs inp fuel).marks)).1 (St.buildR (toMk (runV m fs inp fuel).marks)).2.accs.length r.ok)),.ref iv 0 0]∧VAt σ' iv c (runV m fs inp fuel)∧Kp σ σ' (fun _=>False):=by
 refine Qk Z74 mixed rfl ?_
 simp only[Q78]
 have hac:(AV.agg (aPr m fs)).cells=aPr m fs:=rfl
 have hRun:=fun σ=>ref29_Run_V m fs inp fuel hf (σ:=σ) hi h64
 generalize runV m fs inp fuel=V at *
 generalize runE m fs inp=e at *
 have hML:=toMk_eq V.marks
 have hBuild:=fun σ=>St.YA (σ:=σ) (toMk V.marks) (by unfold toMk;rw[List.length_map];omega)
 generalize St.buildR (toMk V.marks)=RR at *
 obtain ⟨b,B⟩:=RR
 simp only at hB1 hB2 hB3 hr hBuild ⊢
 have hFind:=Rc.ref32_Find_a B.preds B.accs hB2 hB1 hB3
 refine Q1 (fun ε σ1=>(ε 1=aInts inp∧ε 2=aInt fuel∧ε 3=.ref σ.length 0 0)∧σ1=σ++[.obj 0 (aPr m fs)]) ?_ ?_
 ·intro N X R hN
  push_cast (disch:=omega)
  refine Qd ?_
  push_cast (disch:=omega)[hac]
  exact hN _ _ ⟨by push_cast (disch:=omega),rfl⟩
 rintro ε σ1 ⟨hρ,hσ1⟩
 have h0:σ1[σ.length]?=some (.obj 0 (aPr m fs)):=by rw[hσ1];exact Qn _ _
 have k1:Kp σ σ1 (fun _=>False):=by rw[hσ1];exact Kp.app _ _ _
 generalize σ.length=id at hρ h0
 clear hσ1
 refine Q1 (fun ε σ2=>∃iv c,(ε 8=.ref iv 0 0∧ε 9=.v (.int .i64 e))∧VAt σ2 iv c V∧Kp σ σ2 (fun _=>False)) ?_ ?_
 ·intro N X R hN
  push_cast (disch:=omega)[hρ,h0,cellsPr]
  refine Q2 (hRun _) ?_
  rintro a σ' ⟨iv,c,rfl,q1,q2⟩
  push_cast (disch:=omega)[hρ,aInt]
  exact hN _ _ ⟨iv,c,by push_cast (disch:=omega)[hρ],q1,k1.trans q2⟩
 clear hρ ε h0 k1 σ1
 rintro ε σ2 ⟨iv,c,hρ,hV,k2⟩
 have hiv:=hV.obj
 have c10:=hV.st
 have fin:∀(σ':Kx.St) (v w:Int),v=w→VAt σ' iv c V∧Kp σ σ' (fun _=>False)→act (∃i' c',(AV.tup [.v (.int .i64 v),.ref iv 0 0])=.tup [aInt w,.ref i' 0 0]∧VAt σ' i' c' V∧Kp σ σ' (fun _=>False)):=by
  rintro σ' v w rfl h
  exact ⟨iv,c,rfl,h⟩
 refine Qg (fun ε σ=>(ε 8=.ref iv 0 0∧σ=σ2)∧e=0) ?_ ?_
 ·intro N hN
  by_cases c1:e=0
  ·push_cast (disch:=omega)[hρ,c1]
   exact hN _ _ ⟨⟨by push_cast (disch:=omega)[hρ],rfl⟩,c1⟩
  ·have hv:judgeV e V (cleanV b B.accs.length r.ok)=4:=by unfold judgeV;rw[if_pos c1]
   rw[hv]
   push_cast (disch:=omega)[hρ,c1]
   exact fin _ _ _ rfl ⟨hV,k2⟩
 clear hρ ε
 rintro ε σ' ⟨⟨hρ,e1⟩,c1⟩
 rw[e1]
 clear e1 σ'
 refine Qg (fun ε σ'=>(ε 8=.ref iv 0 0∧σ'=σ2)∧V.status≠4) ?_ ?_
 ·intro N hN
  by_cases c2:V.status=4
  ·have hv:judgeV e V (cleanV b B.accs.length r.ok)=2:=by unfold judgeV;rw[if_neg (by simpa using c1),if_pos c2]
   rw[hv]
   rw[c2] at c10
   push_cast (disch:=omega)[hρ,hiv,c10]
   exact fin _ _ _ rfl ⟨hV,k2⟩
  ·push_cast (disch:=omega)[hρ,hiv,c10,c2]
   exact hN _ _ ⟨⟨by push_cast (disch:=omega)[hρ],rfl⟩,c2⟩
 clear hρ ε
 rintro ε σ' ⟨⟨hρ,e1⟩,c2⟩
 rw[e1]
 clear e1 σ'
 refine Qg (fun ε σ'=>(ε 8=.ref iv 0 0∧σ'=σ2)∧V.status=1) ?_ ?_
 ·intro N hN
  by_cases c3:V.status=1
  ·rw[c3] at c10
   push_cast (disch:=omega)[hρ,hiv,c10]
   exact hN _ _ ⟨⟨by push_cast (disch:=omega)[hρ],rfl⟩,c3⟩
  ·have hv:judgeV e V (cleanV b B.accs.length r.ok)=3:=by unfold judgeV;rw[if_neg (by simpa using c1),if_neg c2,if_pos c3]
   rw[hv]
   push_cast (disch:=omega)[hρ,hiv,c10,c3]
   exact fin _ _ _ rfl ⟨hV,k2⟩
 clear hρ ε
 rintro ε σ' ⟨⟨hρ,e1⟩,c3⟩
 rw[e1]
 clear e1 σ'
 have hv:judgeV e V (cleanV b B.accs.length r.ok)=cleanV b B.accs.length r.ok:=by unfold judgeV;rw[if_neg (by simpa using c1),if_neg c2,if_neg (by simpa using c3)]
 rw[hv]
 obtain ⟨tm,c4⟩:=hV.ms
 have hres:∀S:Kx.St,weak S [true] [.sl V.marks.length (V.marks.flatMap aMk) tm]=[St.aMks (toMk V.marks)]:=by
  intro S
  rw[←hML]
  have:=aMks_res' S V.marks tm
  simp only[weak,if_true]
  rw[this]
 refine Q1 (fun ε σ3=>∃k,(ε 8=.ref iv 0 0∧ε 10=.ref k 0 0∧ε 11=.v (.int .i64 b))∧VAt σ3 iv c V∧St.DgAt σ3 k B∧Kp σ σ3 (fun _=>False)) ?_ ?_
 ·intro N X R hN
  push_cast (disch:=omega)[hρ,hiv,c4]
  refine St.Qi [] [true] (hBuild _) (hres _) ?_
  rintro a σ' ⟨k,rfl,hk,hold⟩
  push_cast (disch:=omega)[hρ,aInt]
  exact hN _ _ ⟨k,by push_cast (disch:=omega)[hρ],hV.keep hold,hk,k2.trans (kp_keep hold)⟩
 clear hρ ε hiv hV fin hres k2
 rintro ε σ3 ⟨k,hρ,hV,hk,k2⟩
 obtain ⟨c0,d1,p,n,a,c5,c6,hk⟩:=hk
 have fin:∀(v w:Int),v=w→act (∃i' c',(AV.tup [.v (.int .i64 v),.ref iv 0 0])=.tup [aInt w,.ref i' 0 0]∧VAt σ3 i' c' V∧Kp σ σ3 (fun _=>False)):=by
  rintro v w rfl
  exact ⟨iv,c,rfl,hV,k2⟩
 refine Qg (fun ε σ'=>((ε 8=.ref iv 0 0∧ε 10=.ref k 0 0)∧σ'=σ3)∧b=0∧¬3000 < B.accs.length) ?_ ?_
 ·intro N hN
  by_cases c4:b=0
  ·by_cases c5:3000 < B.accs.length
   ·have hv:cleanV b B.accs.length r.ok=5:=by unfold cleanV;rw[if_pos (.inr c5)]
    have c5':(3000:Int) < B.accs.length:=by omega
    rw[hv]
    push_cast (disch:=omega)[hρ,c4,hk,c5']
    exact fin _ _ rfl
   ·have c5':¬(3000:Int) < B.accs.length:=by omega
    push_cast (disch:=omega)[hρ,c4,hk,c5']
    exact hN _ _ ⟨⟨by push_cast (disch:=omega)[hρ],rfl⟩,c4,c5⟩
  ·have hv:cleanV b B.accs.length r.ok=5:=by unfold cleanV;rw[if_pos (.inl c4)]
   rw[hv]
   push_cast (disch:=omega)[hρ,c4]
   exact fin _ _ rfl
 clear hρ ε
 rintro ε σ' ⟨⟨hρ,e1⟩,c4,c5⟩
 have hw:∀S:Kx.St,weak S [true,true] [.sl B.preds.length (B.preds.map aInts) p,.sl B.accs.length (B.accs.flatMap aAc) a]=[aInts2 B.preds,aAcs B.accs]:=by
  intro S
  simp only[weak,if_true]
  rw[Zz (Z29 S) B.preds p,Z10 (fun x=>St.Z44 S x) B.accs a]
  rfl
 rw[e1]
 clear e1 σ'
 push_cast (disch:=omega)[hρ,hk]
 refine Q00 [] [true,true] hFind (hw _) ?_
 rintro a ⟨q,rfl,hq⟩
 have hok:=find_ref hr hq
 have hcv:cleanV b B.accs.length r.ok=if 0≤q.1 then 1 else 0:=by
  unfold cleanV
  rw[if_neg (by omega),hok]
  simp
 rw[hcv]
 by_cases c6:0≤q.1
 ·rw[if_pos c6]
  push_cast (disch:=omega)[hρ,aRf,c6]
  exact fin _ _ rfl
 ·rw[if_neg c6]
  push_cast (disch:=omega)[hρ,aRf,c6]
  exact fin _ _ rfl
end
end Go.Proofs.YtncdnegdlkmicaaGreat.Sr
