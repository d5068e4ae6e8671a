/- The machine: what it tells. The machine: how a run came out. The machine: what workers are like. -/
import Derived.Test.YtelibaobkcokdaaGreatB2M3
namespace Go.Proofs.YtelibaobkcokdaaGreat.Mx
set_option linter.unusedSectionVars false
set_option linter.unusedVariables false
set_option linter.unusedSimpArgs false
open Go Go.Kx Go.Proofs Go.Proofs.YtelibaobkcokdaaGreat
set_option maxRecDepth 8000
theorem Clone_ms {i w:Nat} {σ:Kx.St} {d:List Int} (hd:d.length≤1000000) (hi:σ[i]?=some (.obj w (d.map aInt))):FnG Tryz.prog 89 [.ms i w 0 d.length 1] σ fun a σ'=>a=aInts d∧σ'=σ:=by
 refine Qs Q78 mixed rfl ?_
 simp only[Q29]
 have hsrc:srcA σ 1 (.ms i w 0 d.length 1)=some (d.length,d.map aInt):=by
  simp[srcA,hi,subA]
  try rw[List.take_of_length_le (by simp)]
 have h1:(d.map aInt).all AV.one=true:=by rw[List.all_map];exact List.all_eq_true.2 fun x _=>rfl
 push_cast (maxSteps:=999999) -implicitDefEqProofs (disch:=omega)
 refine Q15 (sz:=1) (by simp) (by simp) ?_
 push_cast (maxSteps:=999999) -implicitDefEqProofs (disch:=omega)
 refine Q10 (n:=0) (cs:=[]) (m:=d.length) rfl hsrc (by simp) h1 rfl (by omega) (by omega) ?_
 push_cast (maxSteps:=999999) -implicitDefEqProofs (disch:=omega)
 exact rfl
def aIntsN (d:List Int):AV:=if d=[] then .sl 0 [] .nil else aInts d
def aVtsN (l:List Vt):AV:=if l=[] then .sl 0 [] .nil else .sl l.length (l.flatMap aVt) .none
theorem Clone_sl {σ:Kx.St} {d:List Int} {t:Tok} (hd:d.length≤1000000) (ht:t=.nil↔d=[]):FnG Tryz.prog 89 [.sl d.length (d.map aInt) t] σ fun a σ'=>a=aIntsN d∧σ'=σ:=by
 refine Qs Q78 mixed rfl ?_
 simp only[Q29]
 by_cases c:d=[]
 ·have e:aIntsN d=.sl 0 [] .nil:=if_pos c
  rw[e,ht.2 c,c]
  have hn:PF.av (.eqn false 1) [.sl 0 [] .nil]=some (.v (.bool true)):=rfl
  push_cast (maxSteps:=999999) -implicitDefEqProofs (disch:=omega)[List.length_nil,List.map_nil,hn]
  first|exact trivial|exact ⟨rfl,rfl⟩|exact rfl
 ·have e:aIntsN d=.sl d.length (d.map aInt) .none:=if_neg c
  rw[e]
  have hl:0 < d.length:=List.length_pos_iff.2 c
  have hn:PF.av (.eqn false 1) [.sl d.length (d.map aInt) t]=some (.v (.bool false)):=by
   have hl0:d.length≠0:=by omega
   have htn:t≠.nil:=fun e=>c (ht.1 e)
   cases t<;>first|exact absurd rfl htn|(simp[PF.av,c];done)|(simp[PF.av,hl0];done)|(simp[PF.av];done)
  have h1:(d.map aInt).all AV.one=true:=by rw[List.all_map];exact List.all_eq_true.2 fun x _=>rfl
  push_cast (maxSteps:=999999) -implicitDefEqProofs (disch:=omega)[hn]
  refine Q15 (sz:=1) (by simp) (by simp) ?_
  push_cast (maxSteps:=999999) -implicitDefEqProofs (disch:=omega)
  refine Q10 (n:=0) (cs:=[]) (m:=d.length) rfl rfl (by simp) h1 rfl (by omega) (by omega) ?_
  push_cast (maxSteps:=999999) -implicitDefEqProofs (disch:=omega)
  first|exact trivial|exact ⟨rfl,rfl⟩|exact rfl
theorem vt_len (l:List Vt):(l.flatMap aVt).length=l.length * 4:=by
 induction l with
 | nil=>rfl
 | cons x l ih=>rw[List.flatMap_cons,List.length_append,ih,aVt_len,List.length_cons];omega
theorem vt_one (l:List Vt):(l.flatMap aVt).all AV.one=true:=by
 rw[List.all_flatMap];simp only[show ∀x,(aVt x).all AV.one=true from fun x=>rfl];simp
theorem Clone_ev {σ:Kx.St} {d:List Vt} {t:Tok} (hd:d.length≤1000000000) (ht:t=.nil↔d=[]):FnG Tryz.prog 110 [.sl d.length (d.flatMap aVt) t] σ fun a σ'=>a=aVtsN d∧σ'=σ:=by
 refine Qs Q60 mixed rfl ?_
 simp only[Q20]
 by_cases c:d=[]
 ·have e:aVtsN d=.sl 0 [] .nil:=if_pos c
  rw[e,ht.2 c,c]
  have hn:PF.av (.eqn false 1) [.sl 0 [] .nil]=some (.v (.bool true)):=rfl
  push_cast (maxSteps:=999999) -implicitDefEqProofs (disch:=omega)[List.length_nil,List.flatMap_nil,hn]
  first|exact trivial|exact ⟨rfl,rfl⟩|exact rfl
 ·have e:aVtsN d=.sl d.length (d.flatMap aVt) .none:=if_neg c
  rw[e]
  have hl:0 < d.length:=List.length_pos_iff.2 c
  have hn:PF.av (.eqn false 1) [.sl d.length (d.flatMap aVt) t]=some (.v (.bool false)):=by
   have hl0:d.length≠0:=by omega
   have htn:t≠.nil:=fun e=>c (ht.1 e)
   cases t<;>first|exact absurd rfl htn|(simp[PF.av,c];done)|(simp[PF.av,hl0];done)|(simp[PF.av];done)
  push_cast (maxSteps:=999999) -implicitDefEqProofs (disch:=omega)[hn]
  refine Q15 (sz:=4) (by simp) (by simp) ?_
  push_cast (maxSteps:=999999) -implicitDefEqProofs (disch:=omega)
  refine Q10 (n:=0) (cs:=[]) (m:=d.length) rfl rfl (vt_len d) (vt_one d) rfl (by omega) (by omega) ?_
  push_cast (maxSteps:=999999) -implicitDefEqProofs (disch:=omega)
  first|exact trivial|exact ⟨rfl,rfl⟩|exact rfl
section
variable {q:Pm} {pl:Pl} {σ:Kx.St} {L:List Wk} {s:Cs}
theorem Q41 (h:MM q pl σ L s):FnG Tryz.prog 48 [.ref (pl.p .so) 0 0] σ fun a σ'=>a=aIntsN s.out∧σ'=σ:=by
 refine Qs J20 mixed rfl ?_
 simp only[X29]
 have hso:=h.at_ .so _ rfl
 have ho:=h.sd.o0
 have hl:=h.sd.ol
 push_cast (maxSteps:=999999) -implicitDefEqProofs (disch:=omega)[hso]
 refine Q0 (Clone_sl (by omega) ?_) ?_
 ·cases hv:pl.ov with
  | none=>simp only[tokT,true_iff];exact ho.1 hv
  | some v=>
   simp only[tokT]
   constructor
   ·intro e;cases e
   ·intro e;have:=ho.2 e;rw[hv] at this;cases this
 rintro a σ' ⟨rfl,hs⟩
 rw[hs];clear hs
 push_cast (maxSteps:=999999) -implicitDefEqProofs (disch:=omega)
 first|exact trivial|exact ⟨rfl,rfl⟩|exact rfl
theorem Q03 (h:MM q pl σ L s):FnG Tryz.prog 62 [.ref (pl.p .sd) 0 0] σ fun a σ'=>a=aInts s.data∧σ'=σ:=by
 refine Qs Y40 mixed rfl ?_
 simp only[Z82]
 have hst:=h.datas.st
 have hl:=h.sd.dt
 push_cast (maxSteps:=999999) -implicitDefEqProofs (disch:=omega)[hst]
 refine Q0 (Clone_ms (by omega) h.datas.wd) ?_
 rintro a σ' ⟨rfl,hs⟩
 rw[hs];clear hs
 push_cast (maxSteps:=999999) -implicitDefEqProofs (disch:=omega)
 first|exact trivial|exact ⟨rfl,rfl⟩|exact rfl
theorem log_all_a (h:MM q pl σ L s):FnG Tryz.prog 111 [.ref (pl.p .lo) 0 0] σ fun a σ'=>a=.sl s.log.length (s.log.flatMap aVt) (tokT pl.lv (pl.p .lt) 4)∧σ'=σ:=by
 refine Qs Gx mixed rfl ?_
 simp only[Y22]
 have hlo:=h.at_ .lo _ rfl
 push_cast (maxSteps:=999999) -implicitDefEqProofs (disch:=omega)[hlo]
 first|exact trivial|exact ⟨rfl,rfl⟩|exact rfl
theorem log_All_a (h:MM q pl σ L s) (hb:s.log.length≤1000000000):FnG Tryz.prog 59 [.ref (pl.p .lo) 0 0] σ fun a σ'=>a=aVtsN s.log∧σ'=σ:=by
 refine Qs Gw mixed rfl ?_
 simp only[Y17]
 have ho:=h.sd.l0
 push_cast (maxSteps:=999999) -implicitDefEqProofs (disch:=omega)
 refine Q0 (log_all_a h) ?_
 rintro a σ' ⟨rfl,hs⟩
 rw[hs];clear hs
 push_cast (maxSteps:=999999) -implicitDefEqProofs (disch:=omega)
 refine Q0 (Clone_ev hb ?_) ?_
 ·cases hv:pl.lv with
  | none=>simp only[tokT,true_iff];exact ho.1 hv
  | some v=>
   simp only[tokT]
   constructor
   ·intro e;cases e
   ·intro e;have:=ho.2 e;rw[hv] at this;cases this
 rintro a σ' ⟨rfl,hs⟩
 rw[hs];clear hs
 push_cast (maxSteps:=999999) -implicitDefEqProofs (disch:=omega)
 first|exact trivial|exact ⟨rfl,rfl⟩|exact rfl
end
theorem Jr {jm:Nat} {q:Pm} {pl:Pl} {σ:Kx.St} {m:Mc} (h:MaM jm q pl σ m) (hb:m.c.log.length≤1000000000):FnG Tryz.prog 23 [.ref jm 0 0] σ fun a σ'=>a=aVtsN m.c.log∧σ'=σ:=by
 refine Qs Xf mixed rfl ?_
 simp only[Q57]
 obtain ⟨t,ht⟩:=h.mo
 push_cast (maxSteps:=999999) -implicitDefEqProofs (disch:=omega)[ht]
 refine Q0 (J86 h.mm) ?_
 rintro a σ' ⟨rfl,hs⟩
 rw[hs];clear hs
 push_cast (maxSteps:=999999) -implicitDefEqProofs (disch:=omega)[ht]
 refine Q0 (log_All_a h.mm hb) ?_
 rintro a σ' ⟨rfl,hs⟩
 rw[hs];clear hs
 push_cast (maxSteps:=999999) -implicitDefEqProofs (disch:=omega)
 first|exact trivial|exact ⟨rfl,rfl⟩|exact rfl
end Go.Proofs.YtelibaobkcokdaaGreat.Mx
namespace Go.Proofs.YtelibaobkcokdaaGreat.Mx
set_option linter.unusedVariables false
set_option linter.unusedSimpArgs false
open Go Go.Kx Go.Proofs Go.Proofs.YtelibaobkcokdaaGreat
set_option maxRecDepth 8000
def Mc.state (m:Mc):Int:=if m.c.status=0∧m.ended=true then 6 else m.c.status
def aRs (st:Int) (c:Cs) (pk:Int):List AV:=[.v (.int .i64 st),.v (.int .i64 c.why),aIntsN c.out,aInts c.data,.v (.int .i64 c.steps),.v (.int .i64 c.probes),.v (.int .i64 c.steals),.v (.int .i64 c.parks),.v (.int .i64 c.naps),.v (.int .i64 c.folds),.v (.int .i64 pk)]
theorem aRs_low (st:Int) (c:Cs) (pk:Int) (n:Nat):(AV.agg (aRs st c pk)).low n=true:=by
 have h1:∀l:List Int,AV.lowL n (l.map aInt)=true:=fun l=>low_ints n l
 have h2:(aIntsN c.out).low n=true:=by unfold aIntsN;split<;>simp[AV.low,AV.lowL,aInts,aSl,h1]
 have h3:(aInts c.data).low n=true:=by simp[AV.low,aInts,aSl,h1]
 simp[aRs,AV.low,AV.lowL,h2,h3]
set_option maxHeartbeats 4000000 in
theorem XZ {jm:Nat} {q:Pm} {pl:Pl} {σ:Kx.St} {m:Mc} (h:MaM jm q pl σ m):FnG Tryz.prog 25 [.ref jm 0 0] σ fun a σ'=>a=.agg (aRs m.state m.c m.c.peak)∧σ'=σ:=by
 refine FnG.drop0 (fun a ha=>by subst ha;exact aRs_low ..) ?_
 refine Qs Xh mixed rfl ?_
 simp only[Q58]
 have hz:∀l:List AV,l.length=11→setAtA [AV.v (.int .i64 0),AV.v (.int .i64 0),AV.sl 0 [] .nil,AV.sl 0 [] .nil,AV.v (.int .i64 0),AV.v (.int .i64 0),AV.v (.int .i64 0),AV.v (.int .i64 0),AV.v (.int .i64 0),AV.v (.int .i64 0),AV.v (.int .i64 0)] 0 l=l:=fun l hl=>Q53 (by rw[hl];rfl)
 push_cast (maxSteps:=999999) -implicitDefEqProofs (disch:=omega)
 refine QB ?_
 push_cast (maxSteps:=999999) -implicitDefEqProofs (disch:=omega)
 have hA:MaM jm q pl (σ++[.obj 0 [AV.v (.int .i64 0),AV.v (.int .i64 0),AV.sl 0 [] .nil,AV.sl 0 [] .nil,AV.v (.int .i64 0),AV.v (.int .i64 0),AV.v (.int .i64 0),AV.v (.int .i64 0),AV.v (.int .i64 0),AV.v (.int .i64 0),AV.v (.int .i64 0)]]) m:=h.of (h.mm.app _) (Ext.app ..) rfl
 have hat:(σ++[Res.obj 0 [AV.v (.int .i64 0),AV.v (.int .i64 0),AV.sl 0 [] .nil,AV.sl 0 [] .nil,AV.v (.int .i64 0),AV.v (.int .i64 0),AV.v (.int .i64 0),AV.v (.int .i64 0),AV.v (.int .i64 0),AV.v (.int .i64 0),AV.v (.int .i64 0)]])[σ.length]?=some (.obj 0 [AV.v (.int .i64 0),AV.v (.int .i64 0),AV.sl 0 [] .nil,AV.sl 0 [] .nil,AV.v (.int .i64 0),AV.v (.int .i64 0),AV.v (.int .i64 0),AV.v (.int .i64 0),AV.v (.int .i64 0),AV.v (.int .i64 0),AV.v (.int .i64 0)]):=Qu _ _
 obtain ⟨τ,eτ⟩:∃τ,τ=σ++[Res.obj 0 [AV.v (.int .i64 0),AV.v (.int .i64 0),AV.sl 0 [] .nil,AV.sl 0 [] .nil,AV.v (.int .i64 0),AV.v (.int .i64 0),AV.v (.int .i64 0),AV.v (.int .i64 0),AV.v (.int .i64 0),AV.v (.int .i64 0),AV.v (.int .i64 0)]]:=⟨_,rfl⟩
 rw[←eτ] at hA hat ⊢
 have hlen:σ.length < τ.length:=QM hat
 obtain ⟨t,ht⟩:=hA.mo
 have ht':∀ρ:Kx.St,(τ++ρ)[jm]?=_:=fun ρ=>QD ht
 have hc:=hA.mm.c
 have hc':∀ρ:Kx.St,(τ++ρ)[pl.p .c]?=_:=fun ρ=>QD hc
 have c7:cellsA (some 7) ((aCore q pl m.c).drop 13)=some (.agg [.v (.int .i64 m.c.steps),.v (.int .i64 m.c.probes),.v (.int .i64 m.c.steals),.v (.int .i64 m.c.parks),.v (.int .i64 m.c.naps),.v (.int .i64 m.c.folds),.v (.int .i64 0)]):=rfl
 have x7:(AV.agg [.v (.int .i64 m.c.steps),.v (.int .i64 m.c.probes),.v (.int .i64 m.c.steals),.v (.int .i64 m.c.parks),.v (.int .i64 m.c.naps),.v (.int .i64 m.c.folds),.v (.int .i64 0)]).exact=true:=rfl
 have hb:∀st,fillA [AV.v (.int .i64 0),AV.v (.int .i64 0),AV.sl 0 [] .nil,AV.sl 0 [] .nil,AV.v (.int .i64 0),AV.v (.int .i64 0),AV.v (.int .i64 0),AV.v (.int .i64 0),AV.v (.int .i64 0),AV.v (.int .i64 0),AV.v (.int .i64 0)] [(0,1),(1,1),(2,1),(3,1),(4,7)] [.v (.int .i64 st),.v (.int .i64 m.c.why),aIntsN m.c.out,aInts m.c.data,.agg [.v (.int .i64 m.c.steps),.v (.int .i64 m.c.probes),.v (.int .i64 m.c.steals),.v (.int .i64 m.c.parks),.v (.int .i64 m.c.naps),.v (.int .i64 m.c.folds),.v (.int .i64 0)]]=some (aRs st m.c 0):=fun st=>by
  have h1:(aIntsN m.c.out).cells=[aIntsN m.c.out]:=by unfold aIntsN;split<;>rfl
  have h2:(aInts m.c.data).cells=[aInts m.c.data]:=rfl
  unfold aRs
  generalize aIntsN m.c.out=X at h1
  generalize aInts m.c.data=Y at h2
  have k1:∀x:Int,(AV.v (.int .i64 x)).cells=[AV.v (.int .i64 x)]:=fun _=>rfl
  have k2:∀xs:List AV,(AV.agg xs).cells=xs:=fun _=>rfl
  simp[fillA,h1,h2,k1,k2,setAtA]
 push_cast (maxSteps:=999999) -implicitDefEqProofs (disch:=omega)[ht]
 refine Q0 (Xx hA.mm) ?_
 rintro a σ' ⟨rfl,hs⟩
 rw[hs];clear hs
 have aRs_one:∀st c pk,(aRs st c pk).all AV.one=true:=fun st c pk=>by
  have h1:(aIntsN c.out).one=true:=by unfold aIntsN;split<;>rfl
  have h2:(aInts c.data).one=true:=rfl
  unfold aRs
  generalize aIntsN c.out=X at h1
  generalize aInts c.data=Y at h2
  have k1:∀x:Int,(AV.v (.int .i64 x)).one=true:=fun _=>rfl
  simp only[List.all_cons,List.all_nil,h1,h2,k1];rfl
 have c11:∀st pk,cellsA (some 11) (aRs st m.c pk)=some (.agg (aRs st m.c pk)):=fun _ _=>rfl
 have s10:∀st pk,(aRs st m.c 0).set (4+6) (.v (.int .i64 pk))=aRs st m.c pk:=fun _ _=>rfl
 have hset:∀(ρ:Kx.St) (x:Res),∃τ',(τ++ρ).set σ.length x=σ++τ':=fun ρ x=>⟨([Res.obj 0 [AV.v (.int .i64 0),AV.v (.int .i64 0),AV.sl 0 [] .nil,AV.sl 0 [] .nil,AV.v (.int .i64 0),AV.v (.int .i64 0),AV.v (.int .i64 0),AV.v (.int .i64 0),AV.v (.int .i64 0),AV.v (.int .i64 0),AV.v (.int .i64 0)]]++ρ).set 0 x,by rw[eτ,List.append_assoc];exact J41 σ _ 0 x⟩
 by_cases c:m.c.status=0
 ·have e1:aInt m.c.status=.v (.int .i64 0):=by rw[c];rfl
  rw[e1]
  push_cast (maxSteps:=999999) -implicitDefEqProofs (disch:=omega)[aInt,ht]
  refine Q0 (Q36 hA) ?_
  rintro a σ' ⟨rfl,hs⟩
  rw[hs];clear hs
  cases ce:m.ended with
  | true=>
   have es:m.state=6:=by unfold Mc.state;rw[if_pos ⟨c,ce⟩]
   rw[es]
   push_cast (maxSteps:=999999) -implicitDefEqProofs (disch:=omega)[aBool,ht]
   refine both2 ?_ ?_
   ·refine Q0 (Q98 hA.mm) ?_
    rintro a σ' ⟨rfl,hs⟩
    rw[hs];clear hs
    push_cast (maxSteps:=999999) -implicitDefEqProofs (disch:=omega)[ht,ht',hc,hc',c7,x7,hb]
    refine both2 ?_ ?_
    ·refine Q0 (Q41 hA.mm) ?_
     rintro a σ' ⟨rfl,hs⟩
     rw[hs];clear hs
     push_cast (maxSteps:=999999) -implicitDefEqProofs (disch:=omega)[ht,ht',hc,hc',c7,x7,hb]
     refine both2 ?_ ?_
     ·refine Q0 (Q01 hA.mm) ?_
      rintro a σ' ⟨rfl,hs⟩
      rw[hs];clear hs
      push_cast (maxSteps:=999999) -implicitDefEqProofs (disch:=omega)[ht,ht',hc,hc',c7,x7,hb]
      refine both2 ?_ ?_
      ·refine Q0 (Q03 hA.mm) ?_
       rintro a σ' ⟨rfl,hs⟩
       rw[hs];clear hs
       push_cast (maxSteps:=999999) -implicitDefEqProofs (disch:=omega)[ht,ht',hc,hc',c7,x7,hb]
       refine both2 ?_ ?_
       ·refine Q0 (QP hA.mm) ?_
        rintro a σ' ⟨rfl,hs⟩
        rw[hs];clear hs
        push_cast (maxSteps:=999999) -implicitDefEqProofs (disch:=omega)[ht,ht',hc,hc',c7,x7,hb]
        refine QB ?_
        push_cast (maxSteps:=999999) -implicitDefEqProofs (disch:=omega)[ht,ht',hc,hc',c7,x7,hb]
        refine Qt (cs:=[AV.v (.int .i64 0),AV.v (.int .i64 0),AV.sl 0 [] .nil,AV.sl 0 [] .nil,AV.v (.int .i64 0),AV.v (.int .i64 0),AV.v (.int .i64 0),AV.v (.int .i64 0),AV.v (.int .i64 0),AV.v (.int .i64 0),AV.v (.int .i64 0)]) (l:=aRs 6 m.c 0) rfl (aRs_one _ _ _) (Qu _ _) (Nat.le_refl 11) ?_
        rw[hz _ rfl,QC]
        push_cast (maxSteps:=999999) -implicitDefEqProofs (disch:=omega)[ht,ht']
        refine Q0 (QH (hA.mm.app _)) ?_
        rintro a σ' ⟨rfl,hs⟩
        rw[hs];clear hs
        push_cast (maxSteps:=999999) -implicitDefEqProofs (disch:=omega)[ht,ht']
        refine Q0 (QU (hA.mm.app _)) ?_
        rintro a σ' ⟨rfl,hs⟩
        rw[hs];clear hs
        push_cast (maxSteps:=999999) -implicitDefEqProofs (disch:=omega)[aInt]
        refine Qv rfl rfl (Qu _ _) (show 10 < 11 from by omega) ?_
        rw[QC,s10]
        push_cast (maxSteps:=999999) -implicitDefEqProofs (disch:=omega)[Qu,c11]
        refine Qt (cs:=[AV.v (.int .i64 0),AV.v (.int .i64 0),AV.sl 0 [] .nil,AV.sl 0 [] .nil,AV.v (.int .i64 0),AV.v (.int .i64 0),AV.v (.int .i64 0),AV.v (.int .i64 0),AV.v (.int .i64 0),AV.v (.int .i64 0),AV.v (.int .i64 0)]) (l:=aRs 6 m.c m.c.peak) rfl (aRs_one _ _ _) (QD hat) (Nat.le_refl 11) ?_
        rw[hz _ rfl]
        have hgo:=Qy (o:=Res.obj 0 (aRs 6 m.c m.c.peak)) (QD (τ:=[Res.obj 0 (aRs 6 m.c m.c.peak)]) hat)
        push_cast (maxSteps:=999999) -implicitDefEqProofs (disch:=omega)[hgo,c11]
        exact hset _ _
       ·refine QB ?_
        push_cast (maxSteps:=999999) -implicitDefEqProofs (disch:=omega)[ht,ht',hc,hc',c7,x7,hb]
        refine Q0 (QP (hA.mm.app _)) ?_
        rintro a σ' ⟨rfl,hs⟩
        rw[hs];clear hs
        push_cast (maxSteps:=999999) -implicitDefEqProofs (disch:=omega)[ht,ht',hc,hc',c7,x7,hb]
        refine Qt (cs:=[AV.v (.int .i64 0),AV.v (.int .i64 0),AV.sl 0 [] .nil,AV.sl 0 [] .nil,AV.v (.int .i64 0),AV.v (.int .i64 0),AV.v (.int .i64 0),AV.v (.int .i64 0),AV.v (.int .i64 0),AV.v (.int .i64 0),AV.v (.int .i64 0)]) (l:=aRs 6 m.c 0) rfl (aRs_one _ _ _) (Qu _ _) (Nat.le_refl 11) ?_
        rw[hz _ rfl,QC]
        push_cast (maxSteps:=999999) -implicitDefEqProofs (disch:=omega)[ht,ht']
        refine Q0 (QH (hA.mm.app _)) ?_
        rintro a σ' ⟨rfl,hs⟩
        rw[hs];clear hs
        push_cast (maxSteps:=999999) -implicitDefEqProofs (disch:=omega)[ht,ht']
        refine Q0 (QU (hA.mm.app _)) ?_
        rintro a σ' ⟨rfl,hs⟩
        rw[hs];clear hs
        push_cast (maxSteps:=999999) -implicitDefEqProofs (disch:=omega)[aInt]
        refine Qv rfl rfl (Qu _ _) (show 10 < 11 from by omega) ?_
        rw[QC,s10]
        push_cast (maxSteps:=999999) -implicitDefEqProofs (disch:=omega)[Qu,c11]
        refine Qt (cs:=[AV.v (.int .i64 0),AV.v (.int .i64 0),AV.sl 0 [] .nil,AV.sl 0 [] .nil,AV.v (.int .i64 0),AV.v (.int .i64 0),AV.v (.int .i64 0),AV.v (.int .i64 0),AV.v (.int .i64 0),AV.v (.int .i64 0),AV.v (.int .i64 0)]) (l:=aRs 6 m.c m.c.peak) rfl (aRs_one _ _ _) (QD hat) (Nat.le_refl 11) ?_
        rw[hz _ rfl]
        have hgo:=Qy (o:=Res.obj 0 (aRs 6 m.c m.c.peak)) (QD (τ:=[Res.obj 0 (aRs 6 m.c m.c.peak)]) hat)
        push_cast (maxSteps:=999999) -implicitDefEqProofs (disch:=omega)[hgo,c11]
        exact hset _ _
      ·refine QB ?_
       push_cast (maxSteps:=999999) -implicitDefEqProofs (disch:=omega)[ht,ht',hc,hc',c7,x7,hb]
       refine Q0 (Q03 (hA.mm.app _)) ?_
       rintro a σ' ⟨rfl,hs⟩
       rw[hs];clear hs
       push_cast (maxSteps:=999999) -implicitDefEqProofs (disch:=omega)[ht,ht',hc,hc',c7,x7,hb]
       refine Q0 (QP (hA.mm.app _)) ?_
       rintro a σ' ⟨rfl,hs⟩
       rw[hs];clear hs
       push_cast (maxSteps:=999999) -implicitDefEqProofs (disch:=omega)[ht,ht',hc,hc',c7,x7,hb]
       refine Qt (cs:=[AV.v (.int .i64 0),AV.v (.int .i64 0),AV.sl 0 [] .nil,AV.sl 0 [] .nil,AV.v (.int .i64 0),AV.v (.int .i64 0),AV.v (.int .i64 0),AV.v (.int .i64 0),AV.v (.int .i64 0),AV.v (.int .i64 0),AV.v (.int .i64 0)]) (l:=aRs 6 m.c 0) rfl (aRs_one _ _ _) (Qu _ _) (Nat.le_refl 11) ?_
       rw[hz _ rfl,QC]
       push_cast (maxSteps:=999999) -implicitDefEqProofs (disch:=omega)[ht,ht']
       refine Q0 (QH (hA.mm.app _)) ?_
       rintro a σ' ⟨rfl,hs⟩
       rw[hs];clear hs
       push_cast (maxSteps:=999999) -implicitDefEqProofs (disch:=omega)[ht,ht']
       refine Q0 (QU (hA.mm.app _)) ?_
       rintro a σ' ⟨rfl,hs⟩
       rw[hs];clear hs
       push_cast (maxSteps:=999999) -implicitDefEqProofs (disch:=omega)[aInt]
       refine Qv rfl rfl (Qu _ _) (show 10 < 11 from by omega) ?_
       rw[QC,s10]
       push_cast (maxSteps:=999999) -implicitDefEqProofs (disch:=omega)[Qu,c11]
       refine Qt (cs:=[AV.v (.int .i64 0),AV.v (.int .i64 0),AV.sl 0 [] .nil,AV.sl 0 [] .nil,AV.v (.int .i64 0),AV.v (.int .i64 0),AV.v (.int .i64 0),AV.v (.int .i64 0),AV.v (.int .i64 0),AV.v (.int .i64 0),AV.v (.int .i64 0)]) (l:=aRs 6 m.c m.c.peak) rfl (aRs_one _ _ _) (QD hat) (Nat.le_refl 11) ?_
       rw[hz _ rfl]
       have hgo:=Qy (o:=Res.obj 0 (aRs 6 m.c m.c.peak)) (QD (τ:=[Res.obj 0 (aRs 6 m.c m.c.peak)]) hat)
       push_cast (maxSteps:=999999) -implicitDefEqProofs (disch:=omega)[hgo,c11]
       exact hset _ _
     ·refine QB ?_
      push_cast (maxSteps:=999999) -implicitDefEqProofs (disch:=omega)[ht,ht',hc,hc',c7,x7,hb]
      refine Q0 (Q01 (hA.mm.app _)) ?_
      rintro a σ' ⟨rfl,hs⟩
      rw[hs];clear hs
      push_cast (maxSteps:=999999) -implicitDefEqProofs (disch:=omega)[ht,ht',hc,hc',c7,x7,hb]
      refine Q0 (Q03 (hA.mm.app _)) ?_
      rintro a σ' ⟨rfl,hs⟩
      rw[hs];clear hs
      push_cast (maxSteps:=999999) -implicitDefEqProofs (disch:=omega)[ht,ht',hc,hc',c7,x7,hb]
      refine Q0 (QP (hA.mm.app _)) ?_
      rintro a σ' ⟨rfl,hs⟩
      rw[hs];clear hs
      push_cast (maxSteps:=999999) -implicitDefEqProofs (disch:=omega)[ht,ht',hc,hc',c7,x7,hb]
      refine Qt (cs:=[AV.v (.int .i64 0),AV.v (.int .i64 0),AV.sl 0 [] .nil,AV.sl 0 [] .nil,AV.v (.int .i64 0),AV.v (.int .i64 0),AV.v (.int .i64 0),AV.v (.int .i64 0),AV.v (.int .i64 0),AV.v (.int .i64 0),AV.v (.int .i64 0)]) (l:=aRs 6 m.c 0) rfl (aRs_one _ _ _) (Qu _ _) (Nat.le_refl 11) ?_
      rw[hz _ rfl,QC]
      push_cast (maxSteps:=999999) -implicitDefEqProofs (disch:=omega)[ht,ht']
      refine Q0 (QH (hA.mm.app _)) ?_
      rintro a σ' ⟨rfl,hs⟩
      rw[hs];clear hs
      push_cast (maxSteps:=999999) -implicitDefEqProofs (disch:=omega)[ht,ht']
      refine Q0 (QU (hA.mm.app _)) ?_
      rintro a σ' ⟨rfl,hs⟩
      rw[hs];clear hs
      push_cast (maxSteps:=999999) -implicitDefEqProofs (disch:=omega)[aInt]
      refine Qv rfl rfl (Qu _ _) (show 10 < 11 from by omega) ?_
      rw[QC,s10]
      push_cast (maxSteps:=999999) -implicitDefEqProofs (disch:=omega)[Qu,c11]
      refine Qt (cs:=[AV.v (.int .i64 0),AV.v (.int .i64 0),AV.sl 0 [] .nil,AV.sl 0 [] .nil,AV.v (.int .i64 0),AV.v (.int .i64 0),AV.v (.int .i64 0),AV.v (.int .i64 0),AV.v (.int .i64 0),AV.v (.int .i64 0),AV.v (.int .i64 0)]) (l:=aRs 6 m.c m.c.peak) rfl (aRs_one _ _ _) (QD hat) (Nat.le_refl 11) ?_
      rw[hz _ rfl]
      have hgo:=Qy (o:=Res.obj 0 (aRs 6 m.c m.c.peak)) (QD (τ:=[Res.obj 0 (aRs 6 m.c m.c.peak)]) hat)
      push_cast (maxSteps:=999999) -implicitDefEqProofs (disch:=omega)[hgo,c11]
      exact hset _ _
    ·refine QB ?_
     push_cast (maxSteps:=999999) -implicitDefEqProofs (disch:=omega)[ht,ht',hc,hc',c7,x7,hb]
     refine Q0 (Q41 (hA.mm.app _)) ?_
     rintro a σ' ⟨rfl,hs⟩
     rw[hs];clear hs
     push_cast (maxSteps:=999999) -implicitDefEqProofs (disch:=omega)[ht,ht',hc,hc',c7,x7,hb]
     refine Q0 (Q01 (hA.mm.app _)) ?_
     rintro a σ' ⟨rfl,hs⟩
     rw[hs];clear hs
     push_cast (maxSteps:=999999) -implicitDefEqProofs (disch:=omega)[ht,ht',hc,hc',c7,x7,hb]
     refine Q0 (Q03 (hA.mm.app _)) ?_
     rintro a σ' ⟨rfl,hs⟩
     rw[hs];clear hs
     push_cast (maxSteps:=999999) -implicitDefEqProofs (disch:=omega)[ht,ht',hc,hc',c7,x7,hb]
     refine Q0 (QP (hA.mm.app _)) ?_
     rintro a σ' ⟨rfl,hs⟩
     rw[hs];clear hs
     push_cast (maxSteps:=999999) -implicitDefEqProofs (disch:=omega)[ht,ht',hc,hc',c7,x7,hb]
     refine Qt (cs:=[AV.v (.int .i64 0),AV.v (.int .i64 0),AV.sl 0 [] .nil,AV.sl 0 [] .nil,AV.v (.int .i64 0),AV.v (.int .i64 0),AV.v (.int .i64 0),AV.v (.int .i64 0),AV.v (.int .i64 0),AV.v (.int .i64 0),AV.v (.int .i64 0)]) (l:=aRs 6 m.c 0) rfl (aRs_one _ _ _) (Qu _ _) (Nat.le_refl 11) ?_
     rw[hz _ rfl,QC]
     push_cast (maxSteps:=999999) -implicitDefEqProofs (disch:=omega)[ht,ht']
     refine Q0 (QH (hA.mm.app _)) ?_
     rintro a σ' ⟨rfl,hs⟩
     rw[hs];clear hs
     push_cast (maxSteps:=999999) -implicitDefEqProofs (disch:=omega)[ht,ht']
     refine Q0 (QU (hA.mm.app _)) ?_
     rintro a σ' ⟨rfl,hs⟩
     rw[hs];clear hs
     push_cast (maxSteps:=999999) -implicitDefEqProofs (disch:=omega)[aInt]
     refine Qv rfl rfl (Qu _ _) (show 10 < 11 from by omega) ?_
     rw[QC,s10]
     push_cast (maxSteps:=999999) -implicitDefEqProofs (disch:=omega)[Qu,c11]
     refine Qt (cs:=[AV.v (.int .i64 0),AV.v (.int .i64 0),AV.sl 0 [] .nil,AV.sl 0 [] .nil,AV.v (.int .i64 0),AV.v (.int .i64 0),AV.v (.int .i64 0),AV.v (.int .i64 0),AV.v (.int .i64 0),AV.v (.int .i64 0),AV.v (.int .i64 0)]) (l:=aRs 6 m.c m.c.peak) rfl (aRs_one _ _ _) (QD hat) (Nat.le_refl 11) ?_
     rw[hz _ rfl]
     have hgo:=Qy (o:=Res.obj 0 (aRs 6 m.c m.c.peak)) (QD (τ:=[Res.obj 0 (aRs 6 m.c m.c.peak)]) hat)
     push_cast (maxSteps:=999999) -implicitDefEqProofs (disch:=omega)[hgo,c11]
     exact hset _ _
   ·refine QB ?_
    push_cast (maxSteps:=999999) -implicitDefEqProofs (disch:=omega)[ht,ht',hc,hc',c7,x7,hb]
    refine Q0 (Q98 (hA.mm.app _)) ?_
    rintro a σ' ⟨rfl,hs⟩
    rw[hs];clear hs
    push_cast (maxSteps:=999999) -implicitDefEqProofs (disch:=omega)[ht,ht',hc,hc',c7,x7,hb]
    refine Q0 (Q41 (hA.mm.app _)) ?_
    rintro a σ' ⟨rfl,hs⟩
    rw[hs];clear hs
    push_cast (maxSteps:=999999) -implicitDefEqProofs (disch:=omega)[ht,ht',hc,hc',c7,x7,hb]
    refine Q0 (Q01 (hA.mm.app _)) ?_
    rintro a σ' ⟨rfl,hs⟩
    rw[hs];clear hs
    push_cast (maxSteps:=999999) -implicitDefEqProofs (disch:=omega)[ht,ht',hc,hc',c7,x7,hb]
    refine Q0 (Q03 (hA.mm.app _)) ?_
    rintro a σ' ⟨rfl,hs⟩
    rw[hs];clear hs
    push_cast (maxSteps:=999999) -implicitDefEqProofs (disch:=omega)[ht,ht',hc,hc',c7,x7,hb]
    refine Q0 (QP (hA.mm.app _)) ?_
    rintro a σ' ⟨rfl,hs⟩
    rw[hs];clear hs
    push_cast (maxSteps:=999999) -implicitDefEqProofs (disch:=omega)[ht,ht',hc,hc',c7,x7,hb]
    refine Qt (cs:=[AV.v (.int .i64 0),AV.v (.int .i64 0),AV.sl 0 [] .nil,AV.sl 0 [] .nil,AV.v (.int .i64 0),AV.v (.int .i64 0),AV.v (.int .i64 0),AV.v (.int .i64 0),AV.v (.int .i64 0),AV.v (.int .i64 0),AV.v (.int .i64 0)]) (l:=aRs 6 m.c 0) rfl (aRs_one _ _ _) (Qu _ _) (Nat.le_refl 11) ?_
    rw[hz _ rfl,QC]
    push_cast (maxSteps:=999999) -implicitDefEqProofs (disch:=omega)[ht,ht']
    refine Q0 (QH (hA.mm.app _)) ?_
    rintro a σ' ⟨rfl,hs⟩
    rw[hs];clear hs
    push_cast (maxSteps:=999999) -implicitDefEqProofs (disch:=omega)[ht,ht']
    refine Q0 (QU (hA.mm.app _)) ?_
    rintro a σ' ⟨rfl,hs⟩
    rw[hs];clear hs
    push_cast (maxSteps:=999999) -implicitDefEqProofs (disch:=omega)[aInt]
    refine Qv rfl rfl (Qu _ _) (show 10 < 11 from by omega) ?_
    rw[QC,s10]
    push_cast (maxSteps:=999999) -implicitDefEqProofs (disch:=omega)[Qu,c11]
    refine Qt (cs:=[AV.v (.int .i64 0),AV.v (.int .i64 0),AV.sl 0 [] .nil,AV.sl 0 [] .nil,AV.v (.int .i64 0),AV.v (.int .i64 0),AV.v (.int .i64 0),AV.v (.int .i64 0),AV.v (.int .i64 0),AV.v (.int .i64 0),AV.v (.int .i64 0)]) (l:=aRs 6 m.c m.c.peak) rfl (aRs_one _ _ _) (QD hat) (Nat.le_refl 11) ?_
    rw[hz _ rfl]
    have hgo:=Qy (o:=Res.obj 0 (aRs 6 m.c m.c.peak)) (QD (τ:=[Res.obj 0 (aRs 6 m.c m.c.peak)]) hat)
    push_cast (maxSteps:=999999) -implicitDefEqProofs (disch:=omega)[hgo,c11]
    exact hset _ _
  | false=>
   have es:m.state=0:=by unfold Mc.state;rw[if_neg (by rw[ce];simp),c]
   rw[es]
   push_cast (maxSteps:=999999) -implicitDefEqProofs (disch:=omega)[aBool,ht]
   refine both2 ?_ ?_
   ·refine Q0 (Q98 hA.mm) ?_
    rintro a σ' ⟨rfl,hs⟩
    rw[hs];clear hs
    push_cast (maxSteps:=999999) -implicitDefEqProofs (disch:=omega)[ht,ht',hc,hc',c7,x7,hb]
    refine both2 ?_ ?_
    ·refine Q0 (Q41 hA.mm) ?_
     rintro a σ' ⟨rfl,hs⟩
     rw[hs];clear hs
     push_cast (maxSteps:=999999) -implicitDefEqProofs (disch:=omega)[ht,ht',hc,hc',c7,x7,hb]
     refine both2 ?_ ?_
     ·refine Q0 (Q01 hA.mm) ?_
      rintro a σ' ⟨rfl,hs⟩
      rw[hs];clear hs
      push_cast (maxSteps:=999999) -implicitDefEqProofs (disch:=omega)[ht,ht',hc,hc',c7,x7,hb]
      refine both2 ?_ ?_
      ·refine Q0 (Q03 hA.mm) ?_
       rintro a σ' ⟨rfl,hs⟩
       rw[hs];clear hs
       push_cast (maxSteps:=999999) -implicitDefEqProofs (disch:=omega)[ht,ht',hc,hc',c7,x7,hb]
       refine both2 ?_ ?_
       ·refine Q0 (QP hA.mm) ?_
        rintro a σ' ⟨rfl,hs⟩
        rw[hs];clear hs
        push_cast (maxSteps:=999999) -implicitDefEqProofs (disch:=omega)[ht,ht',hc,hc',c7,x7,hb]
        refine QB ?_
        push_cast (maxSteps:=999999) -implicitDefEqProofs (disch:=omega)[ht,ht',hc,hc',c7,x7,hb]
        refine Qt (cs:=[AV.v (.int .i64 0),AV.v (.int .i64 0),AV.sl 0 [] .nil,AV.sl 0 [] .nil,AV.v (.int .i64 0),AV.v (.int .i64 0),AV.v (.int .i64 0),AV.v (.int .i64 0),AV.v (.int .i64 0),AV.v (.int .i64 0),AV.v (.int .i64 0)]) (l:=aRs 0 m.c 0) rfl (aRs_one _ _ _) (Qu _ _) (Nat.le_refl 11) ?_
        rw[hz _ rfl,QC]
        push_cast (maxSteps:=999999) -implicitDefEqProofs (disch:=omega)[ht,ht']
        refine Q0 (QH (hA.mm.app _)) ?_
        rintro a σ' ⟨rfl,hs⟩
        rw[hs];clear hs
        push_cast (maxSteps:=999999) -implicitDefEqProofs (disch:=omega)[ht,ht']
        refine Q0 (QU (hA.mm.app _)) ?_
        rintro a σ' ⟨rfl,hs⟩
        rw[hs];clear hs
        push_cast (maxSteps:=999999) -implicitDefEqProofs (disch:=omega)[aInt]
        refine Qv rfl rfl (Qu _ _) (show 10 < 11 from by omega) ?_
        rw[QC,s10]
        push_cast (maxSteps:=999999) -implicitDefEqProofs (disch:=omega)[Qu,c11]
        refine Qt (cs:=[AV.v (.int .i64 0),AV.v (.int .i64 0),AV.sl 0 [] .nil,AV.sl 0 [] .nil,AV.v (.int .i64 0),AV.v (.int .i64 0),AV.v (.int .i64 0),AV.v (.int .i64 0),AV.v (.int .i64 0),AV.v (.int .i64 0),AV.v (.int .i64 0)]) (l:=aRs 0 m.c m.c.peak) rfl (aRs_one _ _ _) (QD hat) (Nat.le_refl 11) ?_
        rw[hz _ rfl]
        have hgo:=Qy (o:=Res.obj 0 (aRs 0 m.c m.c.peak)) (QD (τ:=[Res.obj 0 (aRs 0 m.c m.c.peak)]) hat)
        push_cast (maxSteps:=999999) -implicitDefEqProofs (disch:=omega)[hgo,c11]
        exact hset _ _
       ·refine QB ?_
        push_cast (maxSteps:=999999) -implicitDefEqProofs (disch:=omega)[ht,ht',hc,hc',c7,x7,hb]
        refine Q0 (QP (hA.mm.app _)) ?_
        rintro a σ' ⟨rfl,hs⟩
        rw[hs];clear hs
        push_cast (maxSteps:=999999) -implicitDefEqProofs (disch:=omega)[ht,ht',hc,hc',c7,x7,hb]
        refine Qt (cs:=[AV.v (.int .i64 0),AV.v (.int .i64 0),AV.sl 0 [] .nil,AV.sl 0 [] .nil,AV.v (.int .i64 0),AV.v (.int .i64 0),AV.v (.int .i64 0),AV.v (.int .i64 0),AV.v (.int .i64 0),AV.v (.int .i64 0),AV.v (.int .i64 0)]) (l:=aRs 0 m.c 0) rfl (aRs_one _ _ _) (Qu _ _) (Nat.le_refl 11) ?_
        rw[hz _ rfl,QC]
        push_cast (maxSteps:=999999) -implicitDefEqProofs (disch:=omega)[ht,ht']
        refine Q0 (QH (hA.mm.app _)) ?_
        rintro a σ' ⟨rfl,hs⟩
        rw[hs];clear hs
        push_cast (maxSteps:=999999) -implicitDefEqProofs (disch:=omega)[ht,ht']
        refine Q0 (QU (hA.mm.app _)) ?_
        rintro a σ' ⟨rfl,hs⟩
        rw[hs];clear hs
        push_cast (maxSteps:=999999) -implicitDefEqProofs (disch:=omega)[aInt]
        refine Qv rfl rfl (Qu _ _) (show 10 < 11 from by omega) ?_
        rw[QC,s10]
        push_cast (maxSteps:=999999) -implicitDefEqProofs (disch:=omega)[Qu,c11]
        refine Qt (cs:=[AV.v (.int .i64 0),AV.v (.int .i64 0),AV.sl 0 [] .nil,AV.sl 0 [] .nil,AV.v (.int .i64 0),AV.v (.int .i64 0),AV.v (.int .i64 0),AV.v (.int .i64 0),AV.v (.int .i64 0),AV.v (.int .i64 0),AV.v (.int .i64 0)]) (l:=aRs 0 m.c m.c.peak) rfl (aRs_one _ _ _) (QD hat) (Nat.le_refl 11) ?_
        rw[hz _ rfl]
        have hgo:=Qy (o:=Res.obj 0 (aRs 0 m.c m.c.peak)) (QD (τ:=[Res.obj 0 (aRs 0 m.c m.c.peak)]) hat)
        push_cast (maxSteps:=999999) -implicitDefEqProofs (disch:=omega)[hgo,c11]
        exact hset _ _
      ·refine QB ?_
       push_cast (maxSteps:=999999) -implicitDefEqProofs (disch:=omega)[ht,ht',hc,hc',c7,x7,hb]
       refine Q0 (Q03 (hA.mm.app _)) ?_
       rintro a σ' ⟨rfl,hs⟩
       rw[hs];clear hs
       push_cast (maxSteps:=999999) -implicitDefEqProofs (disch:=omega)[ht,ht',hc,hc',c7,x7,hb]
       refine Q0 (QP (hA.mm.app _)) ?_
       rintro a σ' ⟨rfl,hs⟩
       rw[hs];clear hs
       push_cast (maxSteps:=999999) -implicitDefEqProofs (disch:=omega)[ht,ht',hc,hc',c7,x7,hb]
       refine Qt (cs:=[AV.v (.int .i64 0),AV.v (.int .i64 0),AV.sl 0 [] .nil,AV.sl 0 [] .nil,AV.v (.int .i64 0),AV.v (.int .i64 0),AV.v (.int .i64 0),AV.v (.int .i64 0),AV.v (.int .i64 0),AV.v (.int .i64 0),AV.v (.int .i64 0)]) (l:=aRs 0 m.c 0) rfl (aRs_one _ _ _) (Qu _ _) (Nat.le_refl 11) ?_
       rw[hz _ rfl,QC]
       push_cast (maxSteps:=999999) -implicitDefEqProofs (disch:=omega)[ht,ht']
       refine Q0 (QH (hA.mm.app _)) ?_
       rintro a σ' ⟨rfl,hs⟩
       rw[hs];clear hs
       push_cast (maxSteps:=999999) -implicitDefEqProofs (disch:=omega)[ht,ht']
       refine Q0 (QU (hA.mm.app _)) ?_
       rintro a σ' ⟨rfl,hs⟩
       rw[hs];clear hs
       push_cast (maxSteps:=999999) -implicitDefEqProofs (disch:=omega)[aInt]
       refine Qv rfl rfl (Qu _ _) (show 10 < 11 from by omega) ?_
       rw[QC,s10]
       push_cast (maxSteps:=999999) -implicitDefEqProofs (disch:=omega)[Qu,c11]
       refine Qt (cs:=[AV.v (.int .i64 0),AV.v (.int .i64 0),AV.sl 0 [] .nil,AV.sl 0 [] .nil,AV.v (.int .i64 0),AV.v (.int .i64 0),AV.v (.int .i64 0),AV.v (.int .i64 0),AV.v (.int .i64 0),AV.v (.int .i64 0),AV.v (.int .i64 0)]) (l:=aRs 0 m.c m.c.peak) rfl (aRs_one _ _ _) (QD hat) (Nat.le_refl 11) ?_
       rw[hz _ rfl]
       have hgo:=Qy (o:=Res.obj 0 (aRs 0 m.c m.c.peak)) (QD (τ:=[Res.obj 0 (aRs 0 m.c m.c.peak)]) hat)
       push_cast (maxSteps:=999999) -implicitDefEqProofs (disch:=omega)[hgo,c11]
       exact hset _ _
     ·refine QB ?_
      push_cast (maxSteps:=999999) -implicitDefEqProofs (disch:=omega)[ht,ht',hc,hc',c7,x7,hb]
      refine Q0 (Q01 (hA.mm.app _)) ?_
      rintro a σ' ⟨rfl,hs⟩
      rw[hs];clear hs
      push_cast (maxSteps:=999999) -implicitDefEqProofs (disch:=omega)[ht,ht',hc,hc',c7,x7,hb]
      refine Q0 (Q03 (hA.mm.app _)) ?_
      rintro a σ' ⟨rfl,hs⟩
      rw[hs];clear hs
      push_cast (maxSteps:=999999) -implicitDefEqProofs (disch:=omega)[ht,ht',hc,hc',c7,x7,hb]
      refine Q0 (QP (hA.mm.app _)) ?_
      rintro a σ' ⟨rfl,hs⟩
      rw[hs];clear hs
      push_cast (maxSteps:=999999) -implicitDefEqProofs (disch:=omega)[ht,ht',hc,hc',c7,x7,hb]
      refine Qt (cs:=[AV.v (.int .i64 0),AV.v (.int .i64 0),AV.sl 0 [] .nil,AV.sl 0 [] .nil,AV.v (.int .i64 0),AV.v (.int .i64 0),AV.v (.int .i64 0),AV.v (.int .i64 0),AV.v (.int .i64 0),AV.v (.int .i64 0),AV.v (.int .i64 0)]) (l:=aRs 0 m.c 0) rfl (aRs_one _ _ _) (Qu _ _) (Nat.le_refl 11) ?_
      rw[hz _ rfl,QC]
      push_cast (maxSteps:=999999) -implicitDefEqProofs (disch:=omega)[ht,ht']
      refine Q0 (QH (hA.mm.app _)) ?_
      rintro a σ' ⟨rfl,hs⟩
      rw[hs];clear hs
      push_cast (maxSteps:=999999) -implicitDefEqProofs (disch:=omega)[ht,ht']
      refine Q0 (QU (hA.mm.app _)) ?_
      rintro a σ' ⟨rfl,hs⟩
      rw[hs];clear hs
      push_cast (maxSteps:=999999) -implicitDefEqProofs (disch:=omega)[aInt]
      refine Qv rfl rfl (Qu _ _) (show 10 < 11 from by omega) ?_
      rw[QC,s10]
      push_cast (maxSteps:=999999) -implicitDefEqProofs (disch:=omega)[Qu,c11]
      refine Qt (cs:=[AV.v (.int .i64 0),AV.v (.int .i64 0),AV.sl 0 [] .nil,AV.sl 0 [] .nil,AV.v (.int .i64 0),AV.v (.int .i64 0),AV.v (.int .i64 0),AV.v (.int .i64 0),AV.v (.int .i64 0),AV.v (.int .i64 0),AV.v (.int .i64 0)]) (l:=aRs 0 m.c m.c.peak) rfl (aRs_one _ _ _) (QD hat) (Nat.le_refl 11) ?_
      rw[hz _ rfl]
      have hgo:=Qy (o:=Res.obj 0 (aRs 0 m.c m.c.peak)) (QD (τ:=[Res.obj 0 (aRs 0 m.c m.c.peak)]) hat)
      push_cast (maxSteps:=999999) -implicitDefEqProofs (disch:=omega)[hgo,c11]
      exact hset _ _
    ·refine QB ?_
     push_cast (maxSteps:=999999) -implicitDefEqProofs (disch:=omega)[ht,ht',hc,hc',c7,x7,hb]
     refine Q0 (Q41 (hA.mm.app _)) ?_
     rintro a σ' ⟨rfl,hs⟩
     rw[hs];clear hs
     push_cast (maxSteps:=999999) -implicitDefEqProofs (disch:=omega)[ht,ht',hc,hc',c7,x7,hb]
     refine Q0 (Q01 (hA.mm.app _)) ?_
     rintro a σ' ⟨rfl,hs⟩
     rw[hs];clear hs
     push_cast (maxSteps:=999999) -implicitDefEqProofs (disch:=omega)[ht,ht',hc,hc',c7,x7,hb]
     refine Q0 (Q03 (hA.mm.app _)) ?_
     rintro a σ' ⟨rfl,hs⟩
     rw[hs];clear hs
     push_cast (maxSteps:=999999) -implicitDefEqProofs (disch:=omega)[ht,ht',hc,hc',c7,x7,hb]
     refine Q0 (QP (hA.mm.app _)) ?_
     rintro a σ' ⟨rfl,hs⟩
     rw[hs];clear hs
     push_cast (maxSteps:=999999) -implicitDefEqProofs (disch:=omega)[ht,ht',hc,hc',c7,x7,hb]
     refine Qt (cs:=[AV.v (.int .i64 0),AV.v (.int .i64 0),AV.sl 0 [] .nil,AV.sl 0 [] .nil,AV.v (.int .i64 0),AV.v (.int .i64 0),AV.v (.int .i64 0),AV.v (.int .i64 0),AV.v (.int .i64 0),AV.v (.int .i64 0),AV.v (.int .i64 0)]) (l:=aRs 0 m.c 0) rfl (aRs_one _ _ _) (Qu _ _) (Nat.le_refl 11) ?_
     rw[hz _ rfl,QC]
     push_cast (maxSteps:=999999) -implicitDefEqProofs (disch:=omega)[ht,ht']
     refine Q0 (QH (hA.mm.app _)) ?_
     rintro a σ' ⟨rfl,hs⟩
     rw[hs];clear hs
     push_cast (maxSteps:=999999) -implicitDefEqProofs (disch:=omega)[ht,ht']
     refine Q0 (QU (hA.mm.app _)) ?_
     rintro a σ' ⟨rfl,hs⟩
     rw[hs];clear hs
     push_cast (maxSteps:=999999) -implicitDefEqProofs (disch:=omega)[aInt]
     refine Qv rfl rfl (Qu _ _) (show 10 < 11 from by omega) ?_
     rw[QC,s10]
     push_cast (maxSteps:=999999) -implicitDefEqProofs (disch:=omega)[Qu,c11]
     refine Qt (cs:=[AV.v (.int .i64 0),AV.v (.int .i64 0),AV.sl 0 [] .nil,AV.sl 0 [] .nil,AV.v (.int .i64 0),AV.v (.int .i64 0),AV.v (.int .i64 0),AV.v (.int .i64 0),AV.v (.int .i64 0),AV.v (.int .i64 0),AV.v (.int .i64 0)]) (l:=aRs 0 m.c m.c.peak) rfl (aRs_one _ _ _) (QD hat) (Nat.le_refl 11) ?_
     rw[hz _ rfl]
     have hgo:=Qy (o:=Res.obj 0 (aRs 0 m.c m.c.peak)) (QD (τ:=[Res.obj 0 (aRs 0 m.c m.c.peak)]) hat)
     push_cast (maxSteps:=999999) -implicitDefEqProofs (disch:=omega)[hgo,c11]
     exact hset _ _
   ·refine QB ?_
    push_cast (maxSteps:=999999) -implicitDefEqProofs (disch:=omega)[ht,ht',hc,hc',c7,x7,hb]
    refine Q0 (Q98 (hA.mm.app _)) ?_
    rintro a σ' ⟨rfl,hs⟩
    rw[hs];clear hs
    push_cast (maxSteps:=999999) -implicitDefEqProofs (disch:=omega)[ht,ht',hc,hc',c7,x7,hb]
    refine Q0 (Q41 (hA.mm.app _)) ?_
    rintro a σ' ⟨rfl,hs⟩
    rw[hs];clear hs
    push_cast (maxSteps:=999999) -implicitDefEqProofs (disch:=omega)[ht,ht',hc,hc',c7,x7,hb]
    refine Q0 (Q01 (hA.mm.app _)) ?_
    rintro a σ' ⟨rfl,hs⟩
    rw[hs];clear hs
    push_cast (maxSteps:=999999) -implicitDefEqProofs (disch:=omega)[ht,ht',hc,hc',c7,x7,hb]
    refine Q0 (Q03 (hA.mm.app _)) ?_
    rintro a σ' ⟨rfl,hs⟩
    rw[hs];clear hs
    push_cast (maxSteps:=999999) -implicitDefEqProofs (disch:=omega)[ht,ht',hc,hc',c7,x7,hb]
    refine Q0 (QP (hA.mm.app _)) ?_
    rintro a σ' ⟨rfl,hs⟩
    rw[hs];clear hs
    push_cast (maxSteps:=999999) -implicitDefEqProofs (disch:=omega)[ht,ht',hc,hc',c7,x7,hb]
    refine Qt (cs:=[AV.v (.int .i64 0),AV.v (.int .i64 0),AV.sl 0 [] .nil,AV.sl 0 [] .nil,AV.v (.int .i64 0),AV.v (.int .i64 0),AV.v (.int .i64 0),AV.v (.int .i64 0),AV.v (.int .i64 0),AV.v (.int .i64 0),AV.v (.int .i64 0)]) (l:=aRs 0 m.c 0) rfl (aRs_one _ _ _) (Qu _ _) (Nat.le_refl 11) ?_
    rw[hz _ rfl,QC]
    push_cast (maxSteps:=999999) -implicitDefEqProofs (disch:=omega)[ht,ht']
    refine Q0 (QH (hA.mm.app _)) ?_
    rintro a σ' ⟨rfl,hs⟩
    rw[hs];clear hs
    push_cast (maxSteps:=999999) -implicitDefEqProofs (disch:=omega)[ht,ht']
    refine Q0 (QU (hA.mm.app _)) ?_
    rintro a σ' ⟨rfl,hs⟩
    rw[hs];clear hs
    push_cast (maxSteps:=999999) -implicitDefEqProofs (disch:=omega)[aInt]
    refine Qv rfl rfl (Qu _ _) (show 10 < 11 from by omega) ?_
    rw[QC,s10]
    push_cast (maxSteps:=999999) -implicitDefEqProofs (disch:=omega)[Qu,c11]
    refine Qt (cs:=[AV.v (.int .i64 0),AV.v (.int .i64 0),AV.sl 0 [] .nil,AV.sl 0 [] .nil,AV.v (.int .i64 0),AV.v (.int .i64 0),AV.v (.int .i64 0),AV.v (.int .i64 0),AV.v (.int .i64 0),AV.v (.int .i64 0),AV.v (.int .i64 0)]) (l:=aRs 0 m.c m.c.peak) rfl (aRs_one _ _ _) (QD hat) (Nat.le_refl 11) ?_
    rw[hz _ rfl]
    have hgo:=Qy (o:=Res.obj 0 (aRs 0 m.c m.c.peak)) (QD (τ:=[Res.obj 0 (aRs 0 m.c m.c.peak)]) hat)
    push_cast (maxSteps:=999999) -implicitDefEqProofs (disch:=omega)[hgo,c11]
    exact hset _ _
 ·have es:m.state=m.c.status:=if_neg (fun h=>c h.1)
  rw[es]
  push_cast (maxSteps:=999999) -implicitDefEqProofs (disch:=omega)[aInt,c,ht]
  refine both2 ?_ ?_
  ·refine Q0 (Q98 hA.mm) ?_
   rintro a σ' ⟨rfl,hs⟩
   rw[hs];clear hs
   push_cast (maxSteps:=999999) -implicitDefEqProofs (disch:=omega)[ht,ht',hc,hc',c7,x7,hb]
   refine both2 ?_ ?_
   ·refine Q0 (Q41 hA.mm) ?_
    rintro a σ' ⟨rfl,hs⟩
    rw[hs];clear hs
    push_cast (maxSteps:=999999) -implicitDefEqProofs (disch:=omega)[ht,ht',hc,hc',c7,x7,hb]
    refine both2 ?_ ?_
    ·refine Q0 (Q01 hA.mm) ?_
     rintro a σ' ⟨rfl,hs⟩
     rw[hs];clear hs
     push_cast (maxSteps:=999999) -implicitDefEqProofs (disch:=omega)[ht,ht',hc,hc',c7,x7,hb]
     refine both2 ?_ ?_
     ·refine Q0 (Q03 hA.mm) ?_
      rintro a σ' ⟨rfl,hs⟩
      rw[hs];clear hs
      push_cast (maxSteps:=999999) -implicitDefEqProofs (disch:=omega)[ht,ht',hc,hc',c7,x7,hb]
      refine both2 ?_ ?_
      ·refine Q0 (QP hA.mm) ?_
       rintro a σ' ⟨rfl,hs⟩
       rw[hs];clear hs
       push_cast (maxSteps:=999999) -implicitDefEqProofs (disch:=omega)[ht,ht',hc,hc',c7,x7,hb]
       refine QB ?_
       push_cast (maxSteps:=999999) -implicitDefEqProofs (disch:=omega)[ht,ht',hc,hc',c7,x7,hb]
       refine Qt (cs:=[AV.v (.int .i64 0),AV.v (.int .i64 0),AV.sl 0 [] .nil,AV.sl 0 [] .nil,AV.v (.int .i64 0),AV.v (.int .i64 0),AV.v (.int .i64 0),AV.v (.int .i64 0),AV.v (.int .i64 0),AV.v (.int .i64 0),AV.v (.int .i64 0)]) (l:=aRs m.c.status m.c 0) rfl (aRs_one _ _ _) (Qu _ _) (Nat.le_refl 11) ?_
       rw[hz _ rfl,QC]
       push_cast (maxSteps:=999999) -implicitDefEqProofs (disch:=omega)[ht,ht']
       refine Q0 (QH (hA.mm.app _)) ?_
       rintro a σ' ⟨rfl,hs⟩
       rw[hs];clear hs
       push_cast (maxSteps:=999999) -implicitDefEqProofs (disch:=omega)[ht,ht']
       refine Q0 (QU (hA.mm.app _)) ?_
       rintro a σ' ⟨rfl,hs⟩
       rw[hs];clear hs
       push_cast (maxSteps:=999999) -implicitDefEqProofs (disch:=omega)[aInt]
       refine Qv rfl rfl (Qu _ _) (show 10 < 11 from by omega) ?_
       rw[QC,s10]
       push_cast (maxSteps:=999999) -implicitDefEqProofs (disch:=omega)[Qu,c11]
       refine Qt (cs:=[AV.v (.int .i64 0),AV.v (.int .i64 0),AV.sl 0 [] .nil,AV.sl 0 [] .nil,AV.v (.int .i64 0),AV.v (.int .i64 0),AV.v (.int .i64 0),AV.v (.int .i64 0),AV.v (.int .i64 0),AV.v (.int .i64 0),AV.v (.int .i64 0)]) (l:=aRs m.c.status m.c m.c.peak) rfl (aRs_one _ _ _) (QD hat) (Nat.le_refl 11) ?_
       rw[hz _ rfl]
       have hgo:=Qy (o:=Res.obj 0 (aRs m.c.status m.c m.c.peak)) (QD (τ:=[Res.obj 0 (aRs m.c.status m.c m.c.peak)]) hat)
       push_cast (maxSteps:=999999) -implicitDefEqProofs (disch:=omega)[hgo,c11]
       exact hset _ _
      ·refine QB ?_
       push_cast (maxSteps:=999999) -implicitDefEqProofs (disch:=omega)[ht,ht',hc,hc',c7,x7,hb]
       refine Q0 (QP (hA.mm.app _)) ?_
       rintro a σ' ⟨rfl,hs⟩
       rw[hs];clear hs
       push_cast (maxSteps:=999999) -implicitDefEqProofs (disch:=omega)[ht,ht',hc,hc',c7,x7,hb]
       refine Qt (cs:=[AV.v (.int .i64 0),AV.v (.int .i64 0),AV.sl 0 [] .nil,AV.sl 0 [] .nil,AV.v (.int .i64 0),AV.v (.int .i64 0),AV.v (.int .i64 0),AV.v (.int .i64 0),AV.v (.int .i64 0),AV.v (.int .i64 0),AV.v (.int .i64 0)]) (l:=aRs m.c.status m.c 0) rfl (aRs_one _ _ _) (Qu _ _) (Nat.le_refl 11) ?_
       rw[hz _ rfl,QC]
       push_cast (maxSteps:=999999) -implicitDefEqProofs (disch:=omega)[ht,ht']
       refine Q0 (QH (hA.mm.app _)) ?_
       rintro a σ' ⟨rfl,hs⟩
       rw[hs];clear hs
       push_cast (maxSteps:=999999) -implicitDefEqProofs (disch:=omega)[ht,ht']
       refine Q0 (QU (hA.mm.app _)) ?_
       rintro a σ' ⟨rfl,hs⟩
       rw[hs];clear hs
       push_cast (maxSteps:=999999) -implicitDefEqProofs (disch:=omega)[aInt]
       refine Qv rfl rfl (Qu _ _) (show 10 < 11 from by omega) ?_
       rw[QC,s10]
       push_cast (maxSteps:=999999) -implicitDefEqProofs (disch:=omega)[Qu,c11]
       refine Qt (cs:=[AV.v (.int .i64 0),AV.v (.int .i64 0),AV.sl 0 [] .nil,AV.sl 0 [] .nil,AV.v (.int .i64 0),AV.v (.int .i64 0),AV.v (.int .i64 0),AV.v (.int .i64 0),AV.v (.int .i64 0),AV.v (.int .i64 0),AV.v (.int .i64 0)]) (l:=aRs m.c.status m.c m.c.peak) rfl (aRs_one _ _ _) (QD hat) (Nat.le_refl 11) ?_
       rw[hz _ rfl]
       have hgo:=Qy (o:=Res.obj 0 (aRs m.c.status m.c m.c.peak)) (QD (τ:=[Res.obj 0 (aRs m.c.status m.c m.c.peak)]) hat)
       push_cast (maxSteps:=999999) -implicitDefEqProofs (disch:=omega)[hgo,c11]
       exact hset _ _
     ·refine QB ?_
      push_cast (maxSteps:=999999) -implicitDefEqProofs (disch:=omega)[ht,ht',hc,hc',c7,x7,hb]
      refine Q0 (Q03 (hA.mm.app _)) ?_
      rintro a σ' ⟨rfl,hs⟩
      rw[hs];clear hs
      push_cast (maxSteps:=999999) -implicitDefEqProofs (disch:=omega)[ht,ht',hc,hc',c7,x7,hb]
      refine Q0 (QP (hA.mm.app _)) ?_
      rintro a σ' ⟨rfl,hs⟩
      rw[hs];clear hs
      push_cast (maxSteps:=999999) -implicitDefEqProofs (disch:=omega)[ht,ht',hc,hc',c7,x7,hb]
      refine Qt (cs:=[AV.v (.int .i64 0),AV.v (.int .i64 0),AV.sl 0 [] .nil,AV.sl 0 [] .nil,AV.v (.int .i64 0),AV.v (.int .i64 0),AV.v (.int .i64 0),AV.v (.int .i64 0),AV.v (.int .i64 0),AV.v (.int .i64 0),AV.v (.int .i64 0)]) (l:=aRs m.c.status m.c 0) rfl (aRs_one _ _ _) (Qu _ _) (Nat.le_refl 11) ?_
      rw[hz _ rfl,QC]
      push_cast (maxSteps:=999999) -implicitDefEqProofs (disch:=omega)[ht,ht']
      refine Q0 (QH (hA.mm.app _)) ?_
      rintro a σ' ⟨rfl,hs⟩
      rw[hs];clear hs
      push_cast (maxSteps:=999999) -implicitDefEqProofs (disch:=omega)[ht,ht']
      refine Q0 (QU (hA.mm.app _)) ?_
      rintro a σ' ⟨rfl,hs⟩
      rw[hs];clear hs
      push_cast (maxSteps:=999999) -implicitDefEqProofs (disch:=omega)[aInt]
      refine Qv rfl rfl (Qu _ _) (show 10 < 11 from by omega) ?_
      rw[QC,s10]
      push_cast (maxSteps:=999999) -implicitDefEqProofs (disch:=omega)[Qu,c11]
      refine Qt (cs:=[AV.v (.int .i64 0),AV.v (.int .i64 0),AV.sl 0 [] .nil,AV.sl 0 [] .nil,AV.v (.int .i64 0),AV.v (.int .i64 0),AV.v (.int .i64 0),AV.v (.int .i64 0),AV.v (.int .i64 0),AV.v (.int .i64 0),AV.v (.int .i64 0)]) (l:=aRs m.c.status m.c m.c.peak) rfl (aRs_one _ _ _) (QD hat) (Nat.le_refl 11) ?_
      rw[hz _ rfl]
      have hgo:=Qy (o:=Res.obj 0 (aRs m.c.status m.c m.c.peak)) (QD (τ:=[Res.obj 0 (aRs m.c.status m.c m.c.peak)]) hat)
      push_cast (maxSteps:=999999) -implicitDefEqProofs (disch:=omega)[hgo,c11]
      exact hset _ _
    ·refine QB ?_
     push_cast (maxSteps:=999999) -implicitDefEqProofs (disch:=omega)[ht,ht',hc,hc',c7,x7,hb]
     refine Q0 (Q01 (hA.mm.app _)) ?_
     rintro a σ' ⟨rfl,hs⟩
     rw[hs];clear hs
     push_cast (maxSteps:=999999) -implicitDefEqProofs (disch:=omega)[ht,ht',hc,hc',c7,x7,hb]
     refine Q0 (Q03 (hA.mm.app _)) ?_
     rintro a σ' ⟨rfl,hs⟩
     rw[hs];clear hs
     push_cast (maxSteps:=999999) -implicitDefEqProofs (disch:=omega)[ht,ht',hc,hc',c7,x7,hb]
     refine Q0 (QP (hA.mm.app _)) ?_
     rintro a σ' ⟨rfl,hs⟩
     rw[hs];clear hs
     push_cast (maxSteps:=999999) -implicitDefEqProofs (disch:=omega)[ht,ht',hc,hc',c7,x7,hb]
     refine Qt (cs:=[AV.v (.int .i64 0),AV.v (.int .i64 0),AV.sl 0 [] .nil,AV.sl 0 [] .nil,AV.v (.int .i64 0),AV.v (.int .i64 0),AV.v (.int .i64 0),AV.v (.int .i64 0),AV.v (.int .i64 0),AV.v (.int .i64 0),AV.v (.int .i64 0)]) (l:=aRs m.c.status m.c 0) rfl (aRs_one _ _ _) (Qu _ _) (Nat.le_refl 11) ?_
     rw[hz _ rfl,QC]
     push_cast (maxSteps:=999999) -implicitDefEqProofs (disch:=omega)[ht,ht']
     refine Q0 (QH (hA.mm.app _)) ?_
     rintro a σ' ⟨rfl,hs⟩
     rw[hs];clear hs
     push_cast (maxSteps:=999999) -implicitDefEqProofs (disch:=omega)[ht,ht']
     refine Q0 (QU (hA.mm.app _)) ?_
     rintro a σ' ⟨rfl,hs⟩
     rw[hs];clear hs
     push_cast (maxSteps:=999999) -implicitDefEqProofs (disch:=omega)[aInt]
     refine Qv rfl rfl (Qu _ _) (show 10 < 11 from by omega) ?_
     rw[QC,s10]
     push_cast (maxSteps:=999999) -implicitDefEqProofs (disch:=omega)[Qu,c11]
     refine Qt (cs:=[AV.v (.int .i64 0),AV.v (.int .i64 0),AV.sl 0 [] .nil,AV.sl 0 [] .nil,AV.v (.int .i64 0),AV.v (.int .i64 0),AV.v (.int .i64 0),AV.v (.int .i64 0),AV.v (.int .i64 0),AV.v (.int .i64 0),AV.v (.int .i64 0)]) (l:=aRs m.c.status m.c m.c.peak) rfl (aRs_one _ _ _) (QD hat) (Nat.le_refl 11) ?_
     rw[hz _ rfl]
     have hgo:=Qy (o:=Res.obj 0 (aRs m.c.status m.c m.c.peak)) (QD (τ:=[Res.obj 0 (aRs m.c.status m.c m.c.peak)]) hat)
     push_cast (maxSteps:=999999) -implicitDefEqProofs (disch:=omega)[hgo,c11]
     exact hset _ _
   ·refine QB ?_
    push_cast (maxSteps:=999999) -implicitDefEqProofs (disch:=omega)[ht,ht',hc,hc',c7,x7,hb]
    refine Q0 (Q41 (hA.mm.app _)) ?_
    rintro a σ' ⟨rfl,hs⟩
    rw[hs];clear hs
    push_cast (maxSteps:=999999) -implicitDefEqProofs (disch:=omega)[ht,ht',hc,hc',c7,x7,hb]
    refine Q0 (Q01 (hA.mm.app _)) ?_
    rintro a σ' ⟨rfl,hs⟩
    rw[hs];clear hs
    push_cast (maxSteps:=999999) -implicitDefEqProofs (disch:=omega)[ht,ht',hc,hc',c7,x7,hb]
    refine Q0 (Q03 (hA.mm.app _)) ?_
    rintro a σ' ⟨rfl,hs⟩
    rw[hs];clear hs
    push_cast (maxSteps:=999999) -implicitDefEqProofs (disch:=omega)[ht,ht',hc,hc',c7,x7,hb]
    refine Q0 (QP (hA.mm.app _)) ?_
    rintro a σ' ⟨rfl,hs⟩
    rw[hs];clear hs
    push_cast (maxSteps:=999999) -implicitDefEqProofs (disch:=omega)[ht,ht',hc,hc',c7,x7,hb]
    refine Qt (cs:=[AV.v (.int .i64 0),AV.v (.int .i64 0),AV.sl 0 [] .nil,AV.sl 0 [] .nil,AV.v (.int .i64 0),AV.v (.int .i64 0),AV.v (.int .i64 0),AV.v (.int .i64 0),AV.v (.int .i64 0),AV.v (.int .i64 0),AV.v (.int .i64 0)]) (l:=aRs m.c.status m.c 0) rfl (aRs_one _ _ _) (Qu _ _) (Nat.le_refl 11) ?_
    rw[hz _ rfl,QC]
    push_cast (maxSteps:=999999) -implicitDefEqProofs (disch:=omega)[ht,ht']
    refine Q0 (QH (hA.mm.app _)) ?_
    rintro a σ' ⟨rfl,hs⟩
    rw[hs];clear hs
    push_cast (maxSteps:=999999) -implicitDefEqProofs (disch:=omega)[ht,ht']
    refine Q0 (QU (hA.mm.app _)) ?_
    rintro a σ' ⟨rfl,hs⟩
    rw[hs];clear hs
    push_cast (maxSteps:=999999) -implicitDefEqProofs (disch:=omega)[aInt]
    refine Qv rfl rfl (Qu _ _) (show 10 < 11 from by omega) ?_
    rw[QC,s10]
    push_cast (maxSteps:=999999) -implicitDefEqProofs (disch:=omega)[Qu,c11]
    refine Qt (cs:=[AV.v (.int .i64 0),AV.v (.int .i64 0),AV.sl 0 [] .nil,AV.sl 0 [] .nil,AV.v (.int .i64 0),AV.v (.int .i64 0),AV.v (.int .i64 0),AV.v (.int .i64 0),AV.v (.int .i64 0),AV.v (.int .i64 0),AV.v (.int .i64 0)]) (l:=aRs m.c.status m.c m.c.peak) rfl (aRs_one _ _ _) (QD hat) (Nat.le_refl 11) ?_
    rw[hz _ rfl]
    have hgo:=Qy (o:=Res.obj 0 (aRs m.c.status m.c m.c.peak)) (QD (τ:=[Res.obj 0 (aRs m.c.status m.c m.c.peak)]) hat)
    push_cast (maxSteps:=999999) -implicitDefEqProofs (disch:=omega)[hgo,c11]
    exact hset _ _
  ·refine QB ?_
   push_cast (maxSteps:=999999) -implicitDefEqProofs (disch:=omega)[ht,ht',hc,hc',c7,x7,hb]
   refine Q0 (Q98 (hA.mm.app _)) ?_
   rintro a σ' ⟨rfl,hs⟩
   rw[hs];clear hs
   push_cast (maxSteps:=999999) -implicitDefEqProofs (disch:=omega)[ht,ht',hc,hc',c7,x7,hb]
   refine Q0 (Q41 (hA.mm.app _)) ?_
   rintro a σ' ⟨rfl,hs⟩
   rw[hs];clear hs
   push_cast (maxSteps:=999999) -implicitDefEqProofs (disch:=omega)[ht,ht',hc,hc',c7,x7,hb]
   refine Q0 (Q01 (hA.mm.app _)) ?_
   rintro a σ' ⟨rfl,hs⟩
   rw[hs];clear hs
   push_cast (maxSteps:=999999) -implicitDefEqProofs (disch:=omega)[ht,ht',hc,hc',c7,x7,hb]
   refine Q0 (Q03 (hA.mm.app _)) ?_
   rintro a σ' ⟨rfl,hs⟩
   rw[hs];clear hs
   push_cast (maxSteps:=999999) -implicitDefEqProofs (disch:=omega)[ht,ht',hc,hc',c7,x7,hb]
   refine Q0 (QP (hA.mm.app _)) ?_
   rintro a σ' ⟨rfl,hs⟩
   rw[hs];clear hs
   push_cast (maxSteps:=999999) -implicitDefEqProofs (disch:=omega)[ht,ht',hc,hc',c7,x7,hb]
   refine Qt (cs:=[AV.v (.int .i64 0),AV.v (.int .i64 0),AV.sl 0 [] .nil,AV.sl 0 [] .nil,AV.v (.int .i64 0),AV.v (.int .i64 0),AV.v (.int .i64 0),AV.v (.int .i64 0),AV.v (.int .i64 0),AV.v (.int .i64 0),AV.v (.int .i64 0)]) (l:=aRs m.c.status m.c 0) rfl (aRs_one _ _ _) (Qu _ _) (Nat.le_refl 11) ?_
   rw[hz _ rfl,QC]
   push_cast (maxSteps:=999999) -implicitDefEqProofs (disch:=omega)[ht,ht']
   refine Q0 (QH (hA.mm.app _)) ?_
   rintro a σ' ⟨rfl,hs⟩
   rw[hs];clear hs
   push_cast (maxSteps:=999999) -implicitDefEqProofs (disch:=omega)[ht,ht']
   refine Q0 (QU (hA.mm.app _)) ?_
   rintro a σ' ⟨rfl,hs⟩
   rw[hs];clear hs
   push_cast (maxSteps:=999999) -implicitDefEqProofs (disch:=omega)[aInt]
   refine Qv rfl rfl (Qu _ _) (show 10 < 11 from by omega) ?_
   rw[QC,s10]
   push_cast (maxSteps:=999999) -implicitDefEqProofs (disch:=omega)[Qu,c11]
   refine Qt (cs:=[AV.v (.int .i64 0),AV.v (.int .i64 0),AV.sl 0 [] .nil,AV.sl 0 [] .nil,AV.v (.int .i64 0),AV.v (.int .i64 0),AV.v (.int .i64 0),AV.v (.int .i64 0),AV.v (.int .i64 0),AV.v (.int .i64 0),AV.v (.int .i64 0)]) (l:=aRs m.c.status m.c m.c.peak) rfl (aRs_one _ _ _) (QD hat) (Nat.le_refl 11) ?_
   rw[hz _ rfl]
   have hgo:=Qy (o:=Res.obj 0 (aRs m.c.status m.c m.c.peak)) (QD (τ:=[Res.obj 0 (aRs m.c.status m.c m.c.peak)]) hat)
   push_cast (maxSteps:=999999) -implicitDefEqProofs (disch:=omega)[hgo,c11]
   exact hset _ _
def aVw (w:Wk):List AV:=[.v (.int .i64 w.state),.v (.int .i64 w.holds),.v (.int .i64 w.tail),.v (.int .i64 w.probed)]
theorem GE {q:Pm} {pl:Pl} {σ:Kx.St} {L:List Wk} {s:Cs} (h:MM q pl σ L s) {k:Nat} {w:Wk} (hk:L[k]?=some w):FnG Tryz.prog 16 [.ref (pl.p (.wk k)) 0 0] σ fun a σ'=>a=.agg (aVw w)∧σ'=σ:=by
 refine FnG.drop0 (fun a ha=>by subst ha;rfl) ?_
 refine Qs X68 mixed rfl ?_
 simp only[Zt]
 have hw:=h.wk hk
 have g1:(aWk pl k w)[1]?=some (.v (.int .i64 w.state)):=rfl
 have g2:(aWk pl k w)[2]?=some (.v (.int .i64 w.holds)):=rfl
 have g3:(aWk pl k w)[3]?=some (.v (.int .i64 w.tail)):=rfl
 have g4:(aWk pl k w)[4]?=some (.v (.int .i64 w.probed)):=rfl
 have hw':∀ρ:Kx.St,(σ++ρ)[pl.p (.wk k)]?=_:=fun ρ=>QD hw
 have hz:∀l:List AV,l.length=4→setAtA [AV.v (.int .i64 0),AV.v (.int .i64 0),AV.v (.int .i64 0),AV.v (.int .i64 0)] 0 l=l:=fun l hl=>Q53 (by rw[hl];rfl)
 have hb:fillA [AV.v (.int .i64 0),AV.v (.int .i64 0),AV.v (.int .i64 0),AV.v (.int .i64 0)] [(0,1),(1,1),(2,1),(3,1)] [.v (.int .i64 w.state),.v (.int .i64 w.holds),.v (.int .i64 w.tail),.v (.int .i64 w.probed)]=some (aVw w):=by simp[fillA,AV.cells,Value.cells,setAtA,aVw]
 have c4:cellsA (some 4) (aVw w)=some (.agg (aVw w)):=rfl
 push_cast (maxSteps:=999999) -implicitDefEqProofs (disch:=omega)
 refine QB ?_
 push_cast (maxSteps:=999999) -implicitDefEqProofs (disch:=omega)[hw',g1,g2,g3,g4,hb]
 refine Qt (cs:=[AV.v (.int .i64 0),AV.v (.int .i64 0),AV.v (.int .i64 0),AV.v (.int .i64 0)]) (l:=aVw w) rfl rfl (Qu _ _) (Nat.le_refl 4) ?_
 rw[hz _ rfl,QC]
 push_cast (maxSteps:=999999) -implicitDefEqProofs (disch:=omega)[Qu,c4]
 exact ⟨_,rfl⟩
end Go.Proofs.YtelibaobkcokdaaGreat.Mx
