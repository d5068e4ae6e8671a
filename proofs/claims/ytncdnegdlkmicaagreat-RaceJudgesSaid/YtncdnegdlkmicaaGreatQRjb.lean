/- RaceJudges: the walk; shapes. -/
import Derived.Test.YtncdnegdlkmicaaGreatQRja
import Derived.Test.YtncdnegdlkmicaaGreatQPrb
import Derived.Test.YtncdnegdlkmicaaGreatQSeo
namespace Go.Proofs.YtncdnegdlkmicaaGreat.Sr
set_option linter.unusedVariables false
set_option linter.unusedSimpArgs false
open Go Go.Kx Go.Proofs
open Go.Proofs.YtncdnegdlkmicaaGreat.Rc (FindR Fd judgeV cleanV toMk)
theorem runV_lims (m:Int) (fs:List (List Ix)) (inp:List Int) (fuel:Int):
  (runV m fs inp fuel).marks.length≤5 * fuelN fuel∧(runV m fs inp fuel).out.length≤5 * fuelN fuel∧(runV m fs inp fuel).data.length≤256:=by
 unfold runV
 split
 ·rename_i he
  have hp:prgE m fs=0:=by
   unfold runE at he
   by_cases c:prgE m fs=0
   ·exact c
   ·rw[if_pos c] at he;exact absurd he c
  obtain ⟨hm,_,_⟩:=prg_ok hp
  have hle:(inp.length:Int)≤m:=by
   unfold runE at he
   rw[if_neg (by simpa using hp)] at he
   by_cases c:m < inp.length
   ·rw[if_pos c] at he;cases he
   ·omega
  have hN:fuelN fuel≤100000:=by unfold fuelN;omega
  obtain ⟨k',h1,h2⟩:=loop_lim (fs:=fs) (fuelN fuel) 0 _ (Yj m inp hle) (by omega)
  have e1:(runS m fs inp (fuelN fuel)).marks=(loopS fs (fuelN fuel) (initS m inp)).marks:=by
   unfold runS finS
   split<;>rfl
  have e2:(runS m fs inp (fuelN fuel)).out=(loopS fs (fuelN fuel) (initS m inp)).out:=by
   unfold runS finS
   split<;>rfl
  have e3:(runS m fs inp (fuelN fuel)).data=(loopS fs (fuelN fuel) (initS m inp)).data:=by
   unfold runS finS
   split<;>rfl
  rw[e1,e2,e3]
  have q1:=h2.marks
  have q2:=h2.out
  have q3:=h2.data
  exact ⟨by omega,by omega,by omega⟩
 ·exact ⟨by simp[zS],by simp[zS],by simp[zS]⟩
theorem build_sizes (L:List St.Mk) (hL:L.length≤8000):(∀ps∈(St.buildR L).2.preds,ps.length≤1000000)∧(St.buildR L).2.preds.length≤1000000∧(St.buildR L).2.accs.length≤1000000:=by
 by_cases h0:(St.buildR L).1=0
 ·have hrun:=St.buildR_ok h0
  obtain ⟨hpp,hid⟩:=St.pl_run L St.inv0 St.pl0 hrun
  have hda:=hid.c.a
  have hdp:=hid.c.p
  refine ⟨fun ps hps=>?_,by omega,by omega⟩
  have:=hpp ps hps
  omega
 ·rw[St.buildR_err h0]
  exact ⟨fun ps h=>by simp[St.noneB] at h,by decide,by decide⟩
theorem freeze_at {σ:Kx.St} {i w:Nat} {l:List Int} (hi:σ[i]?=some (.obj w (l.map aInt))):(Go.Kx.freeze [i] σ)[i]?=some (.frz w (l.map aInt)):=by
 have hr:AV.resL σ (l.map aInt)=l.map aInt:=by
  rw[QB,List.map_map]
  exact List.map_congr_left fun x _=>Z50 σ x
 rw[Rc.Z03 hi,hr]
 exact Q4 hi
set_option maxHeartbeats 32000000 in
theorem RaceJudges_a (x:Int×List (List Ix)) (inp:List Int) (fuel:Int) (hx:x.2.length≤9223372036854775807) (hi:R64 inp):
  FnP Tryz.prog 3 [.agg (aPr x.1 x.2),aInts inp,.v (.int .i64 fuel)] fun a=>a=aBool true:=by
 obtain ⟨m,fs⟩:=x
 simp only at hx ⊢
 refine Qh ZC mixed rfl (by simp[AV.pureL,AV.pure,Q83,Q07]) ?_
 simp only[Q01]
 have hac:(AV.agg (aPr m fs)).cells=aPr m fs:=rfl
 have hII:aInts inp=.sl inp.length (inp.map aInt) .none:=rfl
 refine Q1 (fun ε σ=>(ε 1=aInts inp∧ε 2=.v (.int .i64 fuel)∧ε 3=.ref 0 0 0)∧σ=[.obj 0 (aPr m fs)]) ?_ ?_
 ·intro N X R hN
  push_cast (disch:=omega)
  refine Qd ?_
  push_cast (disch:=omega)[hac]
  exact hN _ _ (by push_cast (disch:=omega))
 rintro ε σ ⟨hρ,rfl⟩
 refine Q1 (fun ε σ=>(ε 1=aInts inp∧ε 2=.v (.int .i64 fuel)∧ε 3=.ref 0 0 0)∧σ=[.obj 0 (aPr m fs)]) ?_ ?_
 ·intro N X R hN
  push_cast (disch:=omega)[hρ]
  refine Q3 Rc.YI ?_
  rintro a rfl
  push_cast (disch:=omega)[hρ,aBool]
  exact hN _ _ (by push_cast (disch:=omega)[hρ])
 clear hρ ε
 rintro ε σ ⟨hρ,rfl⟩
 refine Qg (fun ε σ=>((ε 1=aInts inp∧ε 2=.v (.int .i64 fuel)∧ε 3=.ref 0 0 0)∧σ=[.obj 0 (aPr m fs)])∧okF fs∧inp.length≤1000∧fuel≤1000) ?_ ?_
 ·intro N hN
  push_cast (disch:=omega)[hρ,cellsPr]
  refine Q3 (YK m fs hx) ?_
  rintro a ⟨b,rfl,hb⟩
  cases b with
  | true=>
   push_cast (disch:=omega)[hρ,aBool]
   first|exact ⟨[],rfl,rfl⟩|exact ⟨[],rfl⟩
  | false=>
   by_cases c:1000 < inp.length
   ·have cI:(1000:Int) < inp.length:=by omega
    push_cast (disch:=omega)[hρ,hII,aBool,cI]
    first|exact ⟨[],rfl,rfl⟩|exact ⟨[],rfl⟩
   ·have cI:¬(1000:Int) < inp.length:=by omega
    by_cases c2:1000 < fuel
    ·push_cast (disch:=omega)[hρ,hII,aBool,cI,c2]
     first|exact ⟨[],rfl,rfl⟩|exact ⟨[],rfl⟩
    ·push_cast (disch:=omega)[hρ,hII,aBool,cI,c2]
     exact hN _ _ ⟨⟨by push_cast (disch:=omega)[hρ,hII],rfl⟩,hb rfl,by omega,by omega⟩
 clear hρ ε hx
 rintro ε σ ⟨⟨hρ,rfl⟩,hf,hil,hfu⟩
 have hfn:fuelN fuel≤1000:=by unfold fuelN;omega
 obtain ⟨hml,hol,hdl⟩:=runV_lims m fs inp fuel
 have hLl:(toMk (runV m fs inp fuel).marks).length≤8000:=by unfold toMk;rw[List.length_map];omega
 obtain ⟨hz1,hz2,hz3⟩:=build_sizes _ hLl
 obtain ⟨r,hr⟩:=Rc.FindR.ex (St.buildR (toMk (runV m fs inp fuel).marks)).2.preds (St.buildR (toMk (runV m fs inp fuel).marks)).2.accs
 have hJ:=Rc.Z45 m fs inp fuel hf (by omega) (by omega) ⟨hz2,hz1,hz3⟩ hr
 have hK:=fun σ=>YJ m fs inp fuel hf (σ:=σ) (by omega) hi (by omega) hz1 hz2 hz3 hr
 generalize judgeV (runE m fs inp) (runV m fs inp fuel) (cleanV (St.buildR (toMk (runV m fs inp fuel).marks)).1 (St.buildR (toMk (runV m fs inp fuel).marks)).2.accs.length r.ok)=J at hJ hK
 clear hLl hz1 hz2 hz3 hr r hml
 generalize runV m fs inp fuel=V at hJ hK hol hdl
 have hIo:=St.X15 V.out V.out (by omega) (by omega)
 have hId:=St.X15 V.data V.data (by omega) (by omega)
 have ho:(V.out==V.out)=true:=by simp
 have hd:(V.data==V.data)=true:=by simp
 rw[ho] at hIo
 rw[hd] at hId
 have hsrc:∀σ:Kx.St,srcA σ 1 (aInts inp)=some (inp.length,inp.map aInt):=fun _=>rfl
 have hone:(inp.map aInt).all AV.one=true:=by rw[List.all_map];exact List.all_eq_true.2 fun x _=>rfl
 have hsetO:setAtA [AV.v (.int .i64 0),AV.v (.int .i64 0),.sl 0 [] .nil,.sl 0 [] .nil,AV.v (.int .i64 0),AV.v (.int .i64 0),AV.v (.int .i64 0)] 0 (aOc V)=aOc V:=rfl
 refine Q1 (fun ε σ=>(ε 1=aInts inp∧ε 2=.v (.int .i64 fuel)∧ε 3=.ref 0 0 0∧ε 7=.v (.int .i64 J)∧ε 8=.ref 1 0 0)∧σ=[.obj 0 (aPr m fs),.obj 0 (aOc V)]) ?_ ?_
 ·intro N X R hN
  push_cast (disch:=omega)[hρ,cellsPr]
  refine Q3 (law04_Own_a m fs hf) ?_
  rintro a rfl
  push_cast (disch:=omega)[hρ]
  refine Qf (sz:=1) (by simp) (by simp) ?_
  push_cast (disch:=omega)[hρ]
  refine QU (n:=0) (cs:=[]) (m:=inp.length) rfl (hsrc _) (by simp) hone rfl (by omega) (by omega) ?_
  push_cast (disch:=omega)[hρ]
  refine Q3 hJ ?_
  rintro a rfl
  push_cast (disch:=omega)[hρ,aInt]
  refine Qb ?_
  push_cast (disch:=omega)[hρ]
  refine Q5 (cs:=[AV.v (.int .i64 0),AV.v (.int .i64 0),.sl 0 [] .nil,.sl 0 [] .nil,AV.v (.int .i64 0),AV.v (.int .i64 0),AV.v (.int .i64 0)]) rfl rfl rfl (by decide) ?_
  rw[hsetO]
  push_cast (disch:=omega)[hρ]
  exact hN _ _ ⟨by push_cast (disch:=omega)[hρ],rfl⟩
 clear hρ ε
 rintro ε σ ⟨hρ,rfl⟩
 refine Q1 (fun ε σ=>∃iv c,(ε 7=.v (.int .i64 J)∧ε 8=.ref 1 0 0∧ε 9=.v (.int .i64 J)∧ε 10=.ref iv 0 0)∧VAt σ iv c V∧σ[1]?=some (.obj 0 (aOc V))) ?_ ?_
 ·intro N X R hN
  push_cast (disch:=omega)[hρ,cellsPr]
  refine Q2 (hK _) ?_
  rintro a σ' ⟨iv,c,rfl,q1,q2⟩
  push_cast (disch:=omega)[hρ,aInt]
  exact hN _ _ ⟨iv,c,by push_cast (disch:=omega)[hρ],q1,q2.2 1 _ (fun h=>h) rfl⟩
 clear hρ ε
 rintro ε σ ⟨iv,c,hρ,hV,h1⟩
 have hiv:=hV.obj
 have c10:=hV.st
 have c11:=hV.wy
 have c7:=hV.sp
 obtain ⟨t,c3⟩:=hV.ou
 have d0:(aOc V)[0]?=some (.v (.int .i64 V.status)):=rfl
 have d1:(aOc V)[1]?=some (.v (.int .i64 V.why)):=rfl
 have d2:(aOc V)[2]?=some (aInts V.out):=rfl
 have d3:(aOc V)[3]?=some (aInts V.data):=rfl
 have d4:(aOc V)[4]?=some (.v (.int .i64 V.steps)):=rfl
 have hfz:∀S:Kx.St,Go.Kx.freeze [] S=S:=fun _=>rfl
 have w1:∀S:Kx.St,weak S [true,true] [aInts V.out,.sl V.out.length (V.out.map aInt) t]=[aInts V.out,aInts V.out]:=by
  intro S
  simp only[weak,if_true]
  rw[Z29,Zz (Z50 S) V.out t]
  rfl
 push_cast (disch:=omega)[hρ,hiv,h1,c10,c11,c7,c3,d0,d1,d2,d4]
 refine Q00 [] [true,true] hIo (w1 _) ?_
 rintro a rfl
 rcases hV.da with ⟨e0,c2⟩|⟨j,c2,hj⟩
 ·have w2:∀S:Kx.St,weak S [true,true] [aInts V.data,.sl 0 [] .nil]=[aInts V.data,aInts V.data]:=by
   intro S
   simp only[weak,if_true]
   rw[Z29,e0]
   rfl
  push_cast (disch:=omega)[hfz,hρ,hiv,h1,c2,d3,aBool]
  refine Q00 [] [true,true] hId (w2 _) ?_
  rintro a rfl
  push_cast (disch:=omega)[hρ,aBool]
  first|exact ⟨[],rfl,rfl⟩|exact ⟨[],rfl⟩
 ·have w2:weak (Go.Kx.freeze [j] σ) [true,true] [aInts V.data,.ms j 0 0 V.data.length 1]=[aInts V.data,aInts V.data]:=by
   simp only[weak,if_true]
   rw[Z29,X83 (freeze_at hj) (by simp)]
   rfl
  push_cast (disch:=omega)[hfz,hρ,hiv,h1,c2,d3,aBool]
  refine Q00 [j] [true,true] hId w2 ?_
  rintro a rfl
  push_cast (disch:=omega)[hρ,aBool]
  first|exact ⟨[],rfl,rfl⟩|exact ⟨[],rfl⟩
def shR:Sh:=.sl 1 shN
theorem shR_read {cs:List AV} (h:Enc shR cs):∃l:List Int,cs=[aInts l]∧R64 l:=by
 obtain ⟨l,rfl,_⟩:=enc_sl1 (f:=fun x:{ x:Int // W64 x }=>aInt x.1) (fun _ hc=>by obtain ⟨x,h,a,b⟩:=Z52 hc;exact ⟨⟨x,a,b⟩,h⟩) (show Enc (.sl 1 shN) cs from h)
 refine ⟨l.map (·.1),?_,fun n hn=>?_⟩
 ·unfold aInts aSl
  simp[List.map_map,Function.comp_def]
 ·obtain ⟨x,_,rfl⟩:=List.mem_map.1 hn
  exact x.2
theorem shR_ok:ShOk Tryz.prog shR 25:=⟨3,Tryz.underlying25,by kernel_rfl,by omega,Tryz.underlying3⟩
end Go.Proofs.YtncdnegdlkmicaaGreat.Sr
