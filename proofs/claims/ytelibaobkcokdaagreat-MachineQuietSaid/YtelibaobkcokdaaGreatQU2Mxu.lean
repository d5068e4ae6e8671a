/- The machine: what is too much to be asked. -/
import Derived.Test.YtelibaobkcokdaaGreatQU2Mxt
import Derived.Test.YtelibaobkcokdaaGreatQU2Prc
namespace Go.Proofs.YtelibaobkcokdaaGreat.Mx
set_option linter.unusedVariables false
set_option linter.unusedSimpArgs false
open Go Go.Kx Go.Proofs Go.Proofs.YtelibaobkcokdaaGreat
set_option maxRecDepth 8000
theorem planB_iff (q:Pm):planB q=true↔((1≤q.W∧q.W≤64)∧(1≤q.F∧q.F≤256)∧(1≤q.T∧q.T≤64)∧(2≤q.D∧q.D≤256)):=by
 unfold planB cl
 rw[decide_eq_true_iff]
 omega
theorem X21 {q:Pm} (h:¬((1≤q.W∧q.W≤64)∧(1≤q.F∧q.F≤256)∧(1≤q.T∧q.T≤64)∧(2≤q.D∧q.D≤256))):planB q=false:=by
 rw[←planB_iff] at h
 simpa using h
set_option maxHeartbeats 4000000 in
theorem Gm (q:Pm):FnP Tryz.prog 108 [.agg (aPl q)] fun r=>r=aBool (planB q):=by
 refine Qg X62 mixed rfl (by simp[AV.pureL,AV.pure,J8]) ?_
 simp only[Zp]
 have g0:(aPl q)[Int.toNat 0]?=some (.v (.int .i64 q.W)):=rfl
 push_cast (maxSteps:=999999) -implicitDefEqProofs (disch:=omega)
 refine Q3 ?_
 by_cases w1:1≤q.W
 ·by_cases w2:q.W≤64
  ·by_cases f1:1≤q.F
   ·by_cases f2:q.F≤256
    ·by_cases t1:1≤q.T
     ·by_cases t2:q.T≤64
      ·by_cases d1:2≤q.D
       ·by_cases d2:q.D≤256
        ·rw[(planB_iff q).2 ⟨⟨w1,w2⟩,⟨f1,f2⟩,⟨t1,t2⟩,⟨d1,d2⟩⟩]
         push_cast (maxSteps:=999999) -implicitDefEqProofs (disch:=omega)[Qf,pl0,pl1,pl2,pl3,w1,w2,f1,f2,t1,t2,d1,d2]
         first|exact ⟨[],rfl,rfl⟩|exact ⟨[],rfl⟩
        ·rw[X21 (by omega)]
         push_cast (maxSteps:=999999) -implicitDefEqProofs (disch:=omega)[Qf,pl0,pl1,pl2,pl3,w1,w2,f1,f2,t1,t2,d1,d2]
         first|exact ⟨[],rfl,rfl⟩|exact ⟨[],rfl⟩
       ·rw[X21 (by omega)]
        push_cast (maxSteps:=999999) -implicitDefEqProofs (disch:=omega)[Qf,pl0,pl1,pl2,pl3,w1,w2,f1,f2,t1,t2,d1]
        first|exact ⟨[],rfl,rfl⟩|exact ⟨[],rfl⟩
      ·rw[X21 (by omega)]
       push_cast (maxSteps:=999999) -implicitDefEqProofs (disch:=omega)[Qf,pl0,pl1,pl2,pl3,w1,w2,f1,f2,t1,t2]
       first|exact ⟨[],rfl,rfl⟩|exact ⟨[],rfl⟩
     ·rw[X21 (by omega)]
      push_cast (maxSteps:=999999) -implicitDefEqProofs (disch:=omega)[Qf,pl0,pl1,pl2,pl3,w1,w2,f1,f2,t1]
      first|exact ⟨[],rfl,rfl⟩|exact ⟨[],rfl⟩
    ·rw[X21 (by omega)]
     push_cast (maxSteps:=999999) -implicitDefEqProofs (disch:=omega)[Qf,pl0,pl1,pl2,pl3,w1,w2,f1,f2]
     first|exact ⟨[],rfl,rfl⟩|exact ⟨[],rfl⟩
   ·rw[X21 (by omega)]
    push_cast (maxSteps:=999999) -implicitDefEqProofs (disch:=omega)[Qf,pl0,pl1,pl2,pl3,w1,w2,f1]
    first|exact ⟨[],rfl,rfl⟩|exact ⟨[],rfl⟩
  ·rw[X21 (by omega)]
   push_cast (maxSteps:=999999) -implicitDefEqProofs (disch:=omega)[Qf,pl0,pl1,pl2,pl3,w1,w2]
   first|exact ⟨[],rfl,rfl⟩|exact ⟨[],rfl⟩
 ·rw[X21 (by omega)]
  push_cast (maxSteps:=999999) -implicitDefEqProofs (disch:=omega)[Qf,pl0,pl1,pl2,pl3,w1]
  first|exact ⟨[],rfl,rfl⟩|exact ⟨[],rfl⟩
theorem q_0 (q:Pm):(aPr q)[0]?=some (.v (.int .i64 q.W)):=rfl
theorem q_1 (q:Pm):(aPr q)[1]?=some (.v (.int .i64 q.T)):=rfl
theorem q_2 (q:Pm):(aPr q)[2]?=some (.v (.int .i64 q.F)):=rfl
theorem q_3 (q:Pm):(aPr q)[3]?=some (.v (.int .i64 q.D)):=rfl
theorem q_4 (q:Pm):(aPr q)[4]?=some (.v (.int .i64 q.O)):=rfl
set_option maxHeartbeats 4000000 in
theorem Gn (m:Int) (fs:List (List Ix)) (hf:okF fs) (inp:List Int) (q:Pm):FnP Tryz.prog 55 [.agg (Go.Proofs.YtelibaobkcokdaaGreat.aPr m fs),aInts inp,.agg (aPr q)] fun a=>a=aInt (coreE m fs inp q):=by
 refine Qg X61 mixed rfl (by simp[AV.pureL,AV.pure,Go.Proofs.YtelibaobkcokdaaGreat.Zz,J03,ZG]) ?_
 simp only[Zo]
 have hac:(AV.agg (Go.Proofs.YtelibaobkcokdaaGreat.aPr m fs)).cells=Go.Proofs.YtelibaobkcokdaaGreat.aPr m fs:=rfl
 have haq:(AV.agg (aPr q)).cells=aPr q:=rfl
 have c2:cellsA (some 2) (Go.Proofs.YtelibaobkcokdaaGreat.aPr m fs)=some (.agg (Go.Proofs.YtelibaobkcokdaaGreat.aPr m fs)):=rfl
 have m0:(Go.Proofs.YtelibaobkcokdaaGreat.aPr m fs)[0]?=some (.v (.int .i64 m)):=rfl
 have hII:aInts inp=.sl inp.length (inp.map aInt) .none:=rfl
 have hb:fillA [AV.v (.int .i64 0),AV.v (.int .i64 0),AV.v (.int .i64 0),AV.v (.int .i64 0)] [(0,1),(1,1),(2,1),(3,1)] [.v (.int .i64 q.W),.v (.int .i64 q.F),.v (.int .i64 q.T),.v (.int .i64 q.D)]=some (aPl q):=by simp[fillA,AV.cells,Value.cells,setAtA,aPl]
 push_cast (maxSteps:=999999) -implicitDefEqProofs (disch:=omega)
 refine Q3 ?_
 push_cast (maxSteps:=999999) -implicitDefEqProofs (disch:=omega)[hac]
 refine Q3 ?_
 push_cast (maxSteps:=999999) -implicitDefEqProofs (disch:=omega)[haq,c2]
 refine Q1 (Gl m fs hf) ?_
 rintro a rfl
 by_cases c1:prgE m fs=0
 ·push_cast (maxSteps:=999999) -implicitDefEqProofs (disch:=omega)[aInt,c1,q_0,q_1,q_2,q_3,hb]
  refine Q1 (Gm q) ?_
  rintro a rfl
  cases c2':planB q with
  | false=>
   have e:coreE m fs inp q=3:=by unfold coreE;rw[if_neg (by simp[c1]),if_pos (.inl c2')]
   rw[e]
   push_cast (maxSteps:=999999) -implicitDefEqProofs (disch:=omega)[aBool]
   first|exact ⟨[],rfl,rfl⟩|exact ⟨[],rfl⟩
  | true=>
   by_cases c3:q.O < 0
   ·have e:coreE m fs inp q=3:=by unfold coreE;rw[if_neg (by simp[c1]),if_pos (.inr (.inl c3))]
    rw[e]
    push_cast (maxSteps:=999999) -implicitDefEqProofs (disch:=omega)[aBool,q_4,c3]
    first|exact ⟨[],rfl,rfl⟩|exact ⟨[],rfl⟩
   by_cases c4:1000 < q.O
   ·have e:coreE m fs inp q=3:=by unfold coreE;rw[if_neg (by simp[c1]),if_pos (.inr (.inr c4))]
    rw[e]
    push_cast (maxSteps:=999999) -implicitDefEqProofs (disch:=omega)[aBool,q_4,c3,c4]
    first|exact ⟨[],rfl,rfl⟩|exact ⟨[],rfl⟩
   by_cases c5:m < inp.length
   ·have e:coreE m fs inp q=9:=by unfold coreE;rw[if_neg (by simp[c1]),if_neg (by simp[c2',c3,c4]),if_pos c5]
    rw[e]
    push_cast (maxSteps:=999999) -implicitDefEqProofs (disch:=omega)[aBool,q_4,c3,c4,hII,m0,c5]
    first|exact ⟨[],rfl,rfl⟩|exact ⟨[],rfl⟩
   ·have e:coreE m fs inp q=0:=by unfold coreE;rw[if_neg (by simp[c1]),if_neg (by simp[c2',c3,c4]),if_neg c5]
    rw[e]
    push_cast (maxSteps:=999999) -implicitDefEqProofs (disch:=omega)[aBool,q_4,c3,c4,hII,m0,c5]
    first|exact ⟨[],rfl,rfl⟩|exact ⟨[],rfl⟩
 ·have e:coreE m fs inp q=prgE m fs:=by unfold coreE;rw[if_pos (by simpa using c1)]
  rw[e]
  push_cast (maxSteps:=999999) -implicitDefEqProofs (disch:=omega)[aInt,c1]
  first|exact ⟨[],rfl,rfl⟩|exact ⟨[],rfl⟩
def aPx (x:Int×Int):List AV:=[.v (.int .i64 x.1),.v (.int .i64 x.2)]
def aPxs (l:List (Int×Int)):AV:=.sl l.length (l.flatMap aPx) .none
theorem aPx_len (x:Int×Int):(aPx x).length=2:=rfl
theorem aPxs_pure (l:List (Int×Int)):(aPxs l).pure=true:=by
 have:AV.pureL (l.flatMap aPx)=true:=by
  induction l with
  | nil=>rfl
  | cons x l ih=>rw[List.flatMap_cons,show ∀k,AV.pureL (aPx x++k)=AV.pureL k from fun k=>by simp[aPx,AV.pureL,AV.pure]];exact ih
 simp[aPxs,AV.pure,this]
theorem c2k (e:Int×Int) (t:List AV):cellsA (some 2) (aPx e++t)=some (.agg (aPx e)):=by simp[cellsA,aPx]
set_option maxHeartbeats 4000000 in
theorem Gp (m:Int) (fs:List (List Ix)) (hl:fs.length≤9223372036854775807) (inp:List Int) (q:Pm) (sc:List (Int×Int)):FnP Tryz.prog 18 [.agg (Go.Proofs.YtelibaobkcokdaaGreat.aPr m fs),aInts inp,.agg (aPr q),aPxs sc] fun a=>∃b,a=aBool b∧(b=false→okF fs∧inp.length≤1000∧sc.length≤20000):=by
 refine Qg X60 mixed rfl (by simp[AV.pureL,AV.pure,Go.Proofs.YtelibaobkcokdaaGreat.Zz,J03,ZG,aPxs_pure]) ?_
 simp only[Zn]
 have hac:(AV.agg (Go.Proofs.YtelibaobkcokdaaGreat.aPr m fs)).cells=Go.Proofs.YtelibaobkcokdaaGreat.aPr m fs:=rfl
 have haq:(AV.agg (aPr q)).cells=aPr q:=rfl
 have c2:cellsA (some 2) (Go.Proofs.YtelibaobkcokdaaGreat.aPr m fs)=some (.agg (Go.Proofs.YtelibaobkcokdaaGreat.aPr m fs)):=rfl
 have c7:cellsA (some 7) (aPr q)=some (.agg (aPr q)):=rfl
 have hII:aInts inp=.sl inp.length (inp.map aInt) .none:=rfl
 have hPP:aPxs sc=.sl sc.length (sc.flatMap aPx) .none:=rfl
 push_cast (maxSteps:=999999) -implicitDefEqProofs (disch:=omega)
 refine Q3 ?_
 push_cast (maxSteps:=999999) -implicitDefEqProofs (disch:=omega)[hac]
 refine Q3 ?_
 push_cast (maxSteps:=999999) -implicitDefEqProofs (disch:=omega)[haq,c2]
 refine Q1 (Gc m fs hl) ?_
 rintro a ⟨b,rfl,hb⟩
 cases b with
 | true=>
  push_cast (maxSteps:=999999) -implicitDefEqProofs (disch:=omega)[aBool]
  first|exact ⟨[],rfl,true,rfl,by simp⟩|exact ⟨[],true,rfl,by simp⟩
 | false=>
  have hf:=hb rfl
  by_cases c1:1000 < inp.length
  ·push_cast (maxSteps:=999999) -implicitDefEqProofs (disch:=omega)[aBool,hII,c1]
   first|exact ⟨[],rfl,true,rfl,by simp⟩|exact ⟨[],true,rfl,by simp⟩
  by_cases c3:20000 < sc.length
  ·push_cast (maxSteps:=999999) -implicitDefEqProofs (disch:=omega)[aBool,hII,c1,hPP,c3]
   first|exact ⟨[],rfl,true,rfl,by simp⟩|exact ⟨[],true,rfl,by simp⟩
  ·push_cast (maxSteps:=999999) -implicitDefEqProofs (disch:=omega)[aBool,hII,c1,hPP,c3,c2,c7]
   refine Q1 (Gn m fs hf inp q) ?_
   rintro a rfl
   have hfin:∀b:Bool,∃is,(AV.res (Go.Kx.freeze is []) (AV.v (Value.bool b))).pure=true∧∃b',AV.res (Go.Kx.freeze is []) (AV.v (Value.bool b))=.v (.bool b')∧(b'=false→okF fs∧inp.length≤1000∧sc.length≤20000):=fun b=>⟨[],rfl,b,rfl,fun _=>⟨hf,by omega,by omega⟩⟩
   by_cases c4:coreE m fs inp q=0
   ·push_cast (maxSteps:=999999) -implicitDefEqProofs (disch:=omega)[aInt,c4,q_1,q_2]
    exact hfin _
   ·push_cast (maxSteps:=999999) -implicitDefEqProofs (disch:=omega)[aInt,c4]
    exact hfin _
end Go.Proofs.YtelibaobkcokdaaGreat.Mx
