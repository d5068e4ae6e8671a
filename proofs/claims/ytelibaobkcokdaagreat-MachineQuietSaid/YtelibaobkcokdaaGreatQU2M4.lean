/- The machine: what it tells. The machine: how a run came out. The machine: what workers are like. -/
import Derived.Test.YtelibaobkcokdaaGreatQU2M3
namespace Go.Proofs.YtelibaobkcokdaaGreat.Mx
set_option linter.unusedSectionVars false
set_option linter.unusedVariables false
set_option linter.unusedSimpArgs false
open Go Go.Kx Go.Proofs Go.Proofs.YtelibaobkcokdaaGreat
set_option maxRecDepth 8000
def aVtsN (l:List Vt):AV:=if l=[] then .sl 0 [] .nil else .sl l.length (l.flatMap aVt) .none
theorem vt_len (l:List Vt):(l.flatMap aVt).length=l.length * 4:=by
 induction l with
 | nil=>rfl
 | cons x l ih=>rw[List.flatMap_cons,List.length_append,ih,aVt_len,List.length_cons];omega
theorem vt_one (l:List Vt):(l.flatMap aVt).all AV.one=true:=by
 rw[List.all_flatMap];simp only[show ∀x,(aVt x).all AV.one=true from fun x=>rfl];simp
theorem Clone_ev {σ:Kx.St} {d:List Vt} {t:Tok} (hd:d.length≤1000000000) (ht:t=.nil↔d=[]):FnG Tryz.prog 110 [.sl d.length (d.flatMap aVt) t] σ fun a σ'=>a=aVtsN d∧σ'=σ:=by
 refine Q2 Q27 mixed rfl ?_
 simp only[QE]
 by_cases c:d=[]
 ·have e:aVtsN d=.sl 0 [] .nil:=if_pos c
  rw[e,ht.2 c,c]
  have hn:PF.av (.eqn false 1) [.sl 0 [] .nil]=some (.v (.bool true)):=rfl
  push_cast (maxSteps:=999999) -implicitDefEqProofs (disch:=omega)[List.length_nil,List.flatMap_nil,hn]
  first|exact trivial|exact ⟨rfl,rfl⟩|exact rfl
 ·have e:aVtsN d=.sl d.length (d.flatMap aVt) .none:=if_neg c
  rw[e]
  have hl:0 < d.length:=List.length_pos_iff.2 c
  have hn:PF.av (.eqn false 1) [.sl d.length (d.flatMap aVt) t]=some (.v (.bool false)):=by
   have hl0:d.length≠0:=by omega
   have htn:t≠.nil:=fun e=>c (ht.1 e)
   cases t<;>first|exact absurd rfl htn|(simp[PF.av,c];done)|(simp[PF.av,hl0];done)|(simp[PF.av];done)
  push_cast (maxSteps:=999999) -implicitDefEqProofs (disch:=omega)[hn]
  refine Qt (sz:=4) (by simp) (by simp) ?_
  push_cast (maxSteps:=999999) -implicitDefEqProofs (disch:=omega)
  refine Qp (n:=0) (cs:=[]) (m:=d.length) rfl rfl (vt_len d) (vt_one d) rfl (by omega) (by omega) ?_
  push_cast (maxSteps:=999999) -implicitDefEqProofs (disch:=omega)
  first|exact trivial|exact ⟨rfl,rfl⟩|exact rfl
section
variable {q:Pm} {pl:Pl} {σ:Kx.St} {L:List Wk} {s:Cs}
theorem log_all_a (h:MM q pl σ L s):FnG Tryz.prog 111 [.ref (pl.p .lo) 0 0] σ fun a σ'=>a=.sl s.log.length (s.log.flatMap aVt) (tokT pl.lv (pl.p .lt) 4)∧σ'=σ:=by
 refine Q2 J98 mixed rfl ?_
 simp only[YS]
 have hlo:=h.at_ .lo _ rfl
 push_cast (maxSteps:=999999) -implicitDefEqProofs (disch:=omega)[hlo]
 first|exact trivial|exact ⟨rfl,rfl⟩|exact rfl
theorem log_All_a (h:MM q pl σ L s) (hb:s.log.length≤1000000000):FnG Tryz.prog 59 [.ref (pl.p .lo) 0 0] σ fun a σ'=>a=aVtsN s.log∧σ'=σ:=by
 refine Q2 J97 mixed rfl ?_
 simp only[YN]
 have ho:=h.sd.l0
 push_cast (maxSteps:=999999) -implicitDefEqProofs (disch:=omega)
 refine Q0 (log_all_a h) ?_
 rintro a σ' ⟨rfl,hs⟩
 rw[hs];clear hs
 push_cast (maxSteps:=999999) -implicitDefEqProofs (disch:=omega)
 refine Q0 (Clone_ev hb ?_) ?_
 ·cases hv:pl.lv with
  | none=>simp only[tokT,true_iff];exact ho.1 hv
  | some v=>
   simp only[tokT]
   constructor
   ·intro e;cases e
   ·intro e;have:=ho.2 e;rw[hv] at this;cases this
 rintro a σ' ⟨rfl,hs⟩
 rw[hs];clear hs
 push_cast (maxSteps:=999999) -implicitDefEqProofs (disch:=omega)
 first|exact trivial|exact ⟨rfl,rfl⟩|exact rfl
end
theorem Q92 {jm:Nat} {q:Pm} {pl:Pl} {σ:Kx.St} {m:Mc} (h:MaM jm q pl σ m) (hb:m.c.log.length≤1000000000):FnG Tryz.prog 23 [.ref jm 0 0] σ fun a σ'=>a=aVtsN m.c.log∧σ'=σ:=by
 refine Q2 Z80 mixed rfl ?_
 simp only[Q24]
 obtain ⟨t,ht⟩:=h.mo
 push_cast (maxSteps:=999999) -implicitDefEqProofs (disch:=omega)[ht]
 refine Q0 (J61 h.mm) ?_
 rintro a σ' ⟨rfl,hs⟩
 rw[hs];clear hs
 push_cast (maxSteps:=999999) -implicitDefEqProofs (disch:=omega)[ht]
 refine Q0 (log_All_a h.mm hb) ?_
 rintro a σ' ⟨rfl,hs⟩
 rw[hs];clear hs
 push_cast (maxSteps:=999999) -implicitDefEqProofs (disch:=omega)
 first|exact trivial|exact ⟨rfl,rfl⟩|exact rfl
def TkOk (d:List Int) (t:Tok):Prop:=(t=.nil∧d=[])∨∃i v,t=.id i v 1
theorem Clone_ms_k {i w:Nat} {σ:Kx.St} {d:List Int} (hd:d.length≤1000000) (hi:σ[i]?=some (.obj w (d.map aInt))):FnG Tryz.prog 89 [.ms i w 0 d.length 1] σ fun a σ'=>(∃t,a=.sl d.length (d.map aInt) t∧TkOk d t)∧∃τ,σ'=σ++τ:=by
 refine Q2 Q44 mixed rfl ?_
 simp only[QX]
 have hsrc:srcA σ 1 (.ms i w 0 d.length 1)=some (d.length,d.map aInt):=by
  simp[srcA,hi,subA]
  try rw[List.take_of_length_le (by simp)]
 have h1:(d.map aInt).all AV.one=true:=by rw[List.all_map];exact List.all_eq_true.2 fun x _=>rfl
 push_cast (maxSteps:=999999) -implicitDefEqProofs (disch:=omega)
 refine Qt (sz:=1) (by simp) (by simp) ?_
 push_cast (maxSteps:=999999) -implicitDefEqProofs (disch:=omega)
 refine Y44 (n:=0) (cs:=[]) (m:=d.length) rfl hsrc (by simp) h1 rfl (by omega) (by omega) ?_
 push_cast (maxSteps:=999999) -implicitDefEqProofs (disch:=omega)[List.nil_append]
 exact ⟨⟨_,rfl,.inr ⟨_,_,rfl⟩⟩,_,rfl⟩
theorem Clone_sl_k {σ:Kx.St} {d:List Int} {t:Tok} (hd:d.length≤1000000) (ht:t=.nil↔d=[]):FnG Tryz.prog 89 [.sl d.length (d.map aInt) t] σ fun a σ'=>(∃t,a=.sl d.length (d.map aInt) t∧TkOk d t)∧∃τ,σ'=σ++τ:=by
 refine Q2 Q44 mixed rfl ?_
 simp only[QX]
 by_cases c:d=[]
 ·rw[ht.2 c,c]
  have hn:PF.av (.eqn false 1) [.sl 0 [] .nil]=some (.v (.bool true)):=rfl
  push_cast (maxSteps:=999999) -implicitDefEqProofs (disch:=omega)[List.length_nil,List.map_nil,hn]
  exact ⟨⟨_,rfl,.inl ⟨rfl,rfl⟩⟩,[],by simp⟩
 ·have hl:0 < d.length:=List.length_pos_iff.2 c
  have hn:PF.av (.eqn false 1) [.sl d.length (d.map aInt) t]=some (.v (.bool false)):=by
   have hl0:d.length≠0:=by omega
   have htn:t≠.nil:=fun e=>c (ht.1 e)
   cases t<;>first|exact absurd rfl htn|(simp[PF.av,c];done)|(simp[PF.av,hl0];done)|(simp[PF.av];done)
  have h1:(d.map aInt).all AV.one=true:=by rw[List.all_map];exact List.all_eq_true.2 fun x _=>rfl
  push_cast (maxSteps:=999999) -implicitDefEqProofs (disch:=omega)[hn]
  refine Qt (sz:=1) (by simp) (by simp) ?_
  push_cast (maxSteps:=999999) -implicitDefEqProofs (disch:=omega)
  refine Y44 (n:=0) (cs:=[]) (m:=d.length) rfl rfl (by simp) h1 rfl (by omega) (by omega) ?_
  push_cast (maxSteps:=999999) -implicitDefEqProofs (disch:=omega)[List.nil_append]
  exact ⟨⟨_,rfl,.inr ⟨_,_,rfl⟩⟩,_,rfl⟩
section
variable {q:Pm} {pl:Pl} {σ:Kx.St} {L:List Wk} {s:Cs}
theorem Y41 (h:MM q pl σ L s):FnG Tryz.prog 48 [.ref (pl.p .so) 0 0] σ fun a σ'=>(∃t,a=.sl s.out.length (s.out.map aInt) t∧TkOk s.out t)∧∃τ,σ'=σ++τ:=by
 refine Q2 JV mixed rfl ?_
 simp only[X01]
 have hso:=h.at_ .so _ rfl
 have ho:=h.sd.o0
 have hl:=h.sd.ol
 push_cast (maxSteps:=999999) -implicitDefEqProofs (disch:=omega)[hso]
 refine Q0 (Clone_sl_k (by omega) ?_) ?_
 ·cases hv:pl.ov with
  | none=>simp only[tokT,true_iff];exact ho.1 hv
  | some v=>
   simp only[tokT]
   constructor
   ·intro e;cases e
   ·intro e;have:=ho.2 e;rw[hv] at this;cases this
 rintro a σ' ⟨⟨t,rfl,k⟩,hs⟩
 push_cast (maxSteps:=999999) -implicitDefEqProofs (disch:=omega)
 exact ⟨⟨_,rfl,k⟩,hs⟩
theorem ZZ (h:MM q pl σ L s):FnG Tryz.prog 62 [.ref (pl.p .sd) 0 0] σ fun a σ'=>(∃t,a=.sl s.data.length (s.data.map aInt) t∧TkOk s.data t)∧∃τ,σ'=σ++τ:=by
 refine Q2 Y09 mixed rfl ?_
 simp only[Z55]
 have hst:=h.datas.st
 have hl:=h.sd.dt
 push_cast (maxSteps:=999999) -implicitDefEqProofs (disch:=omega)[hst]
 refine Q0 (Clone_ms_k (by omega) h.datas.wd) ?_
 rintro a σ' ⟨⟨t,rfl,k⟩,hs⟩
 push_cast (maxSteps:=999999) -implicitDefEqProofs (disch:=omega)
 exact ⟨⟨_,rfl,k⟩,hs⟩
end
theorem Qk {P:Program} {f:FuncId} {xs:List AV} {σ:Kx.St} {v:AV} {K:AV→Kx.St→Prop} (H:FnG P f xs σ fun a σ'=>a=v∧σ'=σ) (hk:act (K v σ)):act (EF.awp P (.call f) xs σ K):=by
 refine Q0 H ?_
 rintro a s ⟨rfl,hs⟩
 rw[hs];exact hk
theorem MaM.app {jm:Nat} {q:Pm} {pl:Pl} {σ:Kx.St} {m:Mc} (h:MaM jm q pl σ m) (τ:Kx.St):MaM jm q pl (σ++τ) m:=h.of (h.mm.app _) (Ext.app ..) rfl
def Mc.state (m:Mc):Int:=if m.c.status=0∧m.ended=true then 6 else m.c.status
def aRg (st:Int) (c:Cs) (pk:Int) (o d:AV):List AV:=[.v (.int .i64 st),.v (.int .i64 c.why),o,d,.v (.int .i64 c.steps),.v (.int .i64 c.probes),.v (.int .i64 c.steals),.v (.int .i64 c.parks),.v (.int .i64 c.naps),.v (.int .i64 c.folds),.v (.int .i64 pk)]
def aRs (st:Int) (c:Cs) (pk:Int):List AV:=aRg st c pk (aInts c.out) (aInts c.data)
theorem aRs_low (st:Int) (c:Cs) (pk:Int) (n:Nat):(AV.agg (aRs st c pk)).low n=true:=by
 have h1:∀l:List Int,AV.lowL n (l.map aInt)=true:=fun l=>low_ints n l
 simp[aRs,aRg,AV.low,AV.lowL,aInts,aSl,h1]
abbrev zR:List AV:=[AV.v (.int .i64 0),AV.v (.int .i64 0),AV.sl 0 [] .nil,AV.sl 0 [] .nil,AV.v (.int .i64 0),AV.v (.int .i64 0),AV.v (.int .i64 0),AV.v (.int .i64 0),AV.v (.int .i64 0),AV.v (.int .i64 0),AV.v (.int .i64 0)]
theorem app3 {τ ρ:Kx.St} {j:Nat} {x:Res} (h:τ.length≤j):∃ρ',(τ++ρ).set j x=τ++ρ':=⟨ρ.set (j - τ.length) x,List.set_append_right _ _ h⟩
set_option maxHeartbeats 4000000 in
theorem Xx {jm:Nat} {q:Pm} {pl:Pl} {σ:Kx.St} {m:Mc} (h:MaM jm q pl σ m):FnG Tryz.prog 25 [.ref jm 0 0] σ fun a σ'=>(∃t1 t2,a=.agg (aRg m.state m.c m.c.peak (.sl m.c.out.length (m.c.out.map aInt) t1) (.sl m.c.data.length (m.c.data.map aInt) t2))∧TkOk m.c.out t1∧TkOk m.c.data t2)∧∃τ,σ'=σ++τ:=by
 refine Q2 Z82 mixed rfl ?_
 simp only[Q25]
 have hz:∀l:List AV,l.length=11→setAtA zR 0 l=l:=fun l hl=>Q07 (by rw[hl];rfl)
 refine Q9 (fun ε σ'=>(ε 0=.ref jm 0 0∧ε 2=.ref σ.length 0 0)∧σ'=σ++[.obj 0 zR]) ?_ ?_
 ·intro N X R hN
  push_cast (maxSteps:=999999) -implicitDefEqProofs (disch:=omega)
  refine Qb ?_
  push_cast (maxSteps:=999999) -implicitDefEqProofs (disch:=omega)
  exact hN _ _ ⟨by push_cast (maxSteps:=999999) -implicitDefEqProofs (disch:=omega),rfl⟩
 rintro ε σ' ⟨hρ,rfl⟩
 have hA:=h.app [.obj 0 zR]
 have hat:(σ++[Res.obj 0 zR])[σ.length]?=some (.obj 0 zR):=Qc _ _
 have hlen:σ.length < (σ++[Res.obj 0 zR]).length:=Qe hat
 obtain ⟨τ,eτ⟩:∃τ,τ=σ++[Res.obj 0 zR]:=⟨_,rfl⟩
 rw[←eτ] at hA hat hlen ⊢
 obtain ⟨t,ht⟩:=hA.mo
 have ht':∀ρ:Kx.St,(τ++ρ)[jm]?=_:=fun ρ=>Qj ht
 have hM:∀ρ:Kx.St,MM q pl (τ++ρ) m.l m.c:=fun ρ=>hA.mm.app ρ
 have hc':∀ρ:Kx.St,(τ++ρ)[pl.p .c]?=_:=fun ρ=>(hM ρ).c
 have hc:=hA.mm.c
 have c7:cellsA (some 7) ((aCore q pl m.c).drop 13)=some (.agg [.v (.int .i64 m.c.steps),.v (.int .i64 m.c.probes),.v (.int .i64 m.c.steals),.v (.int .i64 m.c.parks),.v (.int .i64 m.c.naps),.v (.int .i64 m.c.folds),.v (.int .i64 0)]):=rfl
 have x7:(AV.agg [.v (.int .i64 m.c.steps),.v (.int .i64 m.c.probes),.v (.int .i64 m.c.steals),.v (.int .i64 m.c.parks),.v (.int .i64 m.c.naps),.v (.int .i64 m.c.folds),.v (.int .i64 0)]).exact=true:=rfl
 have hb:∀st n1 c1 t1 n2 c2 t2,fillA zR [(0,1),(1,1),(2,1),(3,1),(4,7)] [.v (.int .i64 st),.v (.int .i64 m.c.why),.sl n1 c1 t1,.sl n2 c2 t2,.agg [.v (.int .i64 m.c.steps),.v (.int .i64 m.c.probes),.v (.int .i64 m.c.steals),.v (.int .i64 m.c.parks),.v (.int .i64 m.c.naps),.v (.int .i64 m.c.folds),.v (.int .i64 0)]]=some (aRg st m.c 0 (.sl n1 c1 t1) (.sl n2 c2 t2)):=fun _ _ _ _ _ _ _=>rfl
 have one:∀st pk n1 c1 t1 n2 c2 t2,(aRg st m.c pk (.sl n1 c1 t1) (.sl n2 c2 t2)).all AV.one=true:=fun _ _ _ _ _ _ _ _=>rfl
 refine Qm (fun ε σ'=>(ε 0=.ref jm 0 0∧ε 2=.ref σ.length 0 0)∧σ'=τ) ?_ ?_
 ·intro N hN
  push_cast (maxSteps:=999999) -implicitDefEqProofs (disch:=omega)[hρ]
  exact hN _ _ ⟨by push_cast (maxSteps:=999999) -implicitDefEqProofs (disch:=omega)[hρ],rfl⟩
 clear hρ ε
 rintro ε σ' ⟨hρ,e⟩
 rw[e];clear e σ'
 refine Q9 (fun ε σ'=>(ε 0=.ref jm 0 0∧ε 2=.ref σ.length 0 0∧ε 3=.v (.int .i64 m.c.status)∧ε 4=.v (.int .i64 m.c.why))∧σ'=τ) ?_ ?_
 ·intro N X R hN
  push_cast (maxSteps:=999999) -implicitDefEqProofs (disch:=omega)[hρ,ht]
  refine Qk (Z98 hA.mm) ?_
  push_cast (maxSteps:=999999) -implicitDefEqProofs (disch:=omega)[hρ,aInt]
  exact hN _ _ ⟨by push_cast (maxSteps:=999999) -implicitDefEqProofs (disch:=omega)[hρ],rfl⟩
 clear hρ ε
 rintro ε σ' ⟨hρ,e⟩
 rw[e];clear e σ'
 refine Qm (fun ε σ'=>(ε 0=.ref jm 0 0∧ε 2=.ref σ.length 0 0∧ε 3=.v (.int .i64 m.state)∧ε 4=.v (.int .i64 m.c.why))∧σ'=τ) ?_ ?_
 ·intro N hN
  by_cases c:m.c.status=0
  ·push_cast (maxSteps:=999999) -implicitDefEqProofs (disch:=omega)[hρ,c]
   refine Qk (QM hA) ?_
   cases ce:m.ended with
   | true=>
    have e:m.state=6:=if_pos ⟨c,ce⟩
    push_cast (maxSteps:=999999) -implicitDefEqProofs (disch:=omega)[hρ,aBool]
    exact hN _ _ ⟨by push_cast (maxSteps:=999999) -implicitDefEqProofs (disch:=omega)[hρ,e],rfl⟩
   | false=>
    have e:m.state=0:=by unfold Mc.state;rw[if_neg (by rw[ce];simp)];exact c
    push_cast (maxSteps:=999999) -implicitDefEqProofs (disch:=omega)[hρ,aBool]
    exact hN _ _ ⟨by push_cast (maxSteps:=999999) -implicitDefEqProofs (disch:=omega)[hρ,e,c],rfl⟩
  ·have e:m.state=m.c.status:=if_neg fun x=>c x.1
   push_cast (maxSteps:=999999) -implicitDefEqProofs (disch:=omega)[hρ,c]
   exact hN _ _ ⟨by push_cast (maxSteps:=999999) -implicitDefEqProofs (disch:=omega)[hρ,e],rfl⟩
 clear hρ ε
 rintro ε σ' ⟨hρ,e⟩
 rw[e];clear e σ'
 refine Q9 (fun ε σ'=>∃j ρ t1 t2,(ε 0=.ref jm 0 0∧ε 2=.ref σ.length 0 0∧ε 5=.ref j 0 0)∧σ'=τ++ρ∧(τ++ρ)[j]?=some (.obj 0 (aRg m.state m.c 0 (.sl m.c.out.length (m.c.out.map aInt) t1) (.sl m.c.data.length (m.c.data.map aInt) t2)))∧τ.length≤j∧TkOk m.c.out t1∧TkOk m.c.data t2) ?_ ?_
 ·intro N X R hN
  push_cast (maxSteps:=999999) -implicitDefEqProofs (disch:=omega)[hρ,ht,ht',hc,hc',c7,x7,hb]
  have fin:∀(ε':AEnv) (S:Kx.St) (j:Nat) (ρ:Kx.St) (t1 t2:Tok),S=τ++ρ→S[j]?=some (.obj 0 zR)→τ.length≤j→TkOk m.c.out t1→TkOk m.c.data t2→(ε' 0=.ref jm 0 0∧ε' 2=.ref σ.length 0 0∧ε' 5=.ref j 0 0) →
    act (N ε' (S.set j (.obj 0 (aRg m.state m.c 0 (.sl m.c.out.length (m.c.out.map aInt) t1) (.sl m.c.data.length (m.c.data.map aInt) t2))))):=by
   intro ε' S j ρ t1 t2 e hj hl k1 k2 he
   subst e
   obtain ⟨ρ',e'⟩:=app3 (τ:=τ) (ρ:=ρ) (x:=Res.obj 0 (aRg m.state m.c 0 (.sl m.c.out.length (m.c.out.map aInt) t1) (.sl m.c.data.length (m.c.data.map aInt) t2))) hl
   refine hN _ _ ⟨j,ρ',t1,t2,he,e',?_,hl,k1,k2⟩
   rw[←e'];exact Qa hj
  refine both2 ?_ ?_
  ·refine Qk (Y37 hA.mm) ?_
   push_cast (maxSteps:=999999) -implicitDefEqProofs (disch:=omega)[hρ,ht,ht',hc,hc',c7,x7,hb,List.append_assoc]
   refine both2 ?_ ?_
   ·refine Q0 (Y41 hA.mm) ?_
    rintro a σ' ⟨⟨t1,rfl,k1⟩,ρ1,hs⟩
    rw[hs];clear hs
    push_cast (maxSteps:=999999) -implicitDefEqProofs (disch:=omega)[hρ,ht,ht',hc,hc',c7,x7,hb,List.append_assoc]
    refine both2 ?_ ?_
    ·refine Qk (Q04 (hM _)) ?_
     push_cast (maxSteps:=999999) -implicitDefEqProofs (disch:=omega)[hρ,ht,ht',hc,hc',c7,x7,hb,List.append_assoc]
     refine both2 ?_ ?_
     ·refine Q0 (ZZ (hM _)) ?_
      rintro a σ' ⟨⟨t2,rfl,k2⟩,ρ2,hs⟩
      rw[hs,List.append_assoc];clear hs
      push_cast (maxSteps:=999999) -implicitDefEqProofs (disch:=omega)[hρ,ht,ht',hc,hc',c7,x7,hb,List.append_assoc]
      refine both2 ?_ ?_
      ·refine Qk (QR (hM _)) ?_
       push_cast (maxSteps:=999999) -implicitDefEqProofs (disch:=omega)[hρ,ht,ht',hc,hc',c7,x7,hb,List.append_assoc]
       refine Qb ?_
       push_cast (maxSteps:=999999) -implicitDefEqProofs (disch:=omega)[hρ,ht,ht',hc,hc',c7,x7,hb,List.append_assoc]
       refine Q8 (cs:=zR) rfl (one _ _ _ _ _ _ _ _) (by simp) (Nat.le_refl 11) ?_
       rw[hz _ rfl]
       push_cast (maxSteps:=999999) -implicitDefEqProofs (disch:=omega)[hρ,List.append_assoc]
       exact fin _ _ _ _ t1 t2 rfl (by simp) (by simp) k1 k2 (by push_cast (maxSteps:=999999) -implicitDefEqProofs (disch:=omega)[hρ])
      ·refine Qb ?_
       push_cast (maxSteps:=999999) -implicitDefEqProofs (disch:=omega)[hρ,ht,ht',hc,hc',c7,x7,hb,List.append_assoc]
       refine Qk (QR (hM _)) ?_
       push_cast (maxSteps:=999999) -implicitDefEqProofs (disch:=omega)[hρ,ht,ht',hc,hc',c7,x7,hb,List.append_assoc]
       refine Q8 (cs:=zR) rfl (one _ _ _ _ _ _ _ _) (by simp) (Nat.le_refl 11) ?_
       rw[hz _ rfl]
       push_cast (maxSteps:=999999) -implicitDefEqProofs (disch:=omega)[hρ,List.append_assoc]
       exact fin _ _ _ _ t1 t2 rfl (by simp) (by simp) k1 k2 (by push_cast (maxSteps:=999999) -implicitDefEqProofs (disch:=omega)[hρ])
     ·refine Qb ?_
      push_cast (maxSteps:=999999) -implicitDefEqProofs (disch:=omega)[hρ,ht,ht',hc,hc',c7,x7,hb,List.append_assoc]
      refine Q0 (ZZ (hM _)) ?_
      rintro a σ' ⟨⟨t2,rfl,k2⟩,ρ2,hs⟩
      rw[hs,List.append_assoc];clear hs
      push_cast (maxSteps:=999999) -implicitDefEqProofs (disch:=omega)[hρ,ht,ht',hc,hc',c7,x7,hb,List.append_assoc]
      refine Qk (QR (hM _)) ?_
      push_cast (maxSteps:=999999) -implicitDefEqProofs (disch:=omega)[hρ,ht,ht',hc,hc',c7,x7,hb,List.append_assoc]
      refine Q8 (cs:=zR) rfl (one _ _ _ _ _ _ _ _) (by simp) (Nat.le_refl 11) ?_
      rw[hz _ rfl]
      push_cast (maxSteps:=999999) -implicitDefEqProofs (disch:=omega)[hρ,List.append_assoc]
      exact fin _ _ _ _ t1 t2 rfl (by simp) (by simp) k1 k2 (by push_cast (maxSteps:=999999) -implicitDefEqProofs (disch:=omega)[hρ])
    ·refine Qb ?_
     push_cast (maxSteps:=999999) -implicitDefEqProofs (disch:=omega)[hρ,ht,ht',hc,hc',c7,x7,hb,List.append_assoc]
     refine Qk (Q04 (hM _)) ?_
     push_cast (maxSteps:=999999) -implicitDefEqProofs (disch:=omega)[hρ,ht,ht',hc,hc',c7,x7,hb,List.append_assoc]
     refine Q0 (ZZ (hM _)) ?_
     rintro a σ' ⟨⟨t2,rfl,k2⟩,ρ2,hs⟩
     rw[hs,List.append_assoc];clear hs
     push_cast (maxSteps:=999999) -implicitDefEqProofs (disch:=omega)[hρ,ht,ht',hc,hc',c7,x7,hb,List.append_assoc]
     refine Qk (QR (hM _)) ?_
     push_cast (maxSteps:=999999) -implicitDefEqProofs (disch:=omega)[hρ,ht,ht',hc,hc',c7,x7,hb,List.append_assoc]
     refine Q8 (cs:=zR) rfl (one _ _ _ _ _ _ _ _) (by simp) (Nat.le_refl 11) ?_
     rw[hz _ rfl]
     push_cast (maxSteps:=999999) -implicitDefEqProofs (disch:=omega)[hρ,List.append_assoc]
     exact fin _ _ _ _ t1 t2 rfl (by simp) (by simp) k1 k2 (by push_cast (maxSteps:=999999) -implicitDefEqProofs (disch:=omega)[hρ])
   ·refine Qb ?_
    push_cast (maxSteps:=999999) -implicitDefEqProofs (disch:=omega)[hρ,ht,ht',hc,hc',c7,x7,hb,List.append_assoc]
    refine Q0 (Y41 (hM _)) ?_
    rintro a σ' ⟨⟨t1,rfl,k1⟩,ρ1,hs⟩
    rw[hs,List.append_assoc];clear hs
    push_cast (maxSteps:=999999) -implicitDefEqProofs (disch:=omega)[hρ,ht,ht',hc,hc',c7,x7,hb,List.append_assoc]
    refine Qk (Q04 (hM _)) ?_
    push_cast (maxSteps:=999999) -implicitDefEqProofs (disch:=omega)[hρ,ht,ht',hc,hc',c7,x7,hb,List.append_assoc]
    refine Q0 (ZZ (hM _)) ?_
    rintro a σ' ⟨⟨t2,rfl,k2⟩,ρ2,hs⟩
    rw[hs,List.append_assoc];clear hs
    push_cast (maxSteps:=999999) -implicitDefEqProofs (disch:=omega)[hρ,ht,ht',hc,hc',c7,x7,hb,List.append_assoc]
    refine Qk (QR (hM _)) ?_
    push_cast (maxSteps:=999999) -implicitDefEqProofs (disch:=omega)[hρ,ht,ht',hc,hc',c7,x7,hb,List.append_assoc]
    refine Q8 (cs:=zR) rfl (one _ _ _ _ _ _ _ _) (by simp) (Nat.le_refl 11) ?_
    rw[hz _ rfl]
    push_cast (maxSteps:=999999) -implicitDefEqProofs (disch:=omega)[hρ,List.append_assoc]
    exact fin _ _ _ _ t1 t2 rfl (by simp) (by simp) k1 k2 (by push_cast (maxSteps:=999999) -implicitDefEqProofs (disch:=omega)[hρ])
  ·refine Qb ?_
   push_cast (maxSteps:=999999) -implicitDefEqProofs (disch:=omega)[hρ,ht,ht',hc,hc',c7,x7,hb,List.append_assoc]
   refine Qk (Y37 (hM _)) ?_
   push_cast (maxSteps:=999999) -implicitDefEqProofs (disch:=omega)[hρ,ht,ht',hc,hc',c7,x7,hb,List.append_assoc]
   refine Q0 (Y41 (hM _)) ?_
   rintro a σ' ⟨⟨t1,rfl,k1⟩,ρ1,hs⟩
   rw[hs,List.append_assoc];clear hs
   push_cast (maxSteps:=999999) -implicitDefEqProofs (disch:=omega)[hρ,ht,ht',hc,hc',c7,x7,hb,List.append_assoc]
   refine Qk (Q04 (hM _)) ?_
   push_cast (maxSteps:=999999) -implicitDefEqProofs (disch:=omega)[hρ,ht,ht',hc,hc',c7,x7,hb,List.append_assoc]
   refine Q0 (ZZ (hM _)) ?_
   rintro a σ' ⟨⟨t2,rfl,k2⟩,ρ2,hs⟩
   rw[hs,List.append_assoc];clear hs
   push_cast (maxSteps:=999999) -implicitDefEqProofs (disch:=omega)[hρ,ht,ht',hc,hc',c7,x7,hb,List.append_assoc]
   refine Qk (QR (hM _)) ?_
   push_cast (maxSteps:=999999) -implicitDefEqProofs (disch:=omega)[hρ,ht,ht',hc,hc',c7,x7,hb,List.append_assoc]
   refine Q8 (cs:=zR) rfl (one _ _ _ _ _ _ _ _) (by simp) (Nat.le_refl 11) ?_
   rw[hz _ rfl]
   push_cast (maxSteps:=999999) -implicitDefEqProofs (disch:=omega)[hρ,List.append_assoc]
   exact fin _ _ _ _ t1 t2 rfl (by simp) (by simp) k1 k2 (by push_cast (maxSteps:=999999) -implicitDefEqProofs (disch:=omega)[hρ])
 clear hρ ε
 rintro ε σ' ⟨j,ρ,t1,t2,hρ,rfl,hj,hl,k1,k2⟩
 have c11:∀pk,cellsA (some 11) (aRg m.state m.c pk (.sl m.c.out.length (m.c.out.map aInt) t1) (.sl m.c.data.length (m.c.data.map aInt) t2))=some (.agg (aRg m.state m.c pk (.sl m.c.out.length (m.c.out.map aInt) t1) (.sl m.c.data.length (m.c.data.map aInt) t2))):=fun _=>rfl
 have s10:(aRg m.state m.c 0 (.sl m.c.out.length (m.c.out.map aInt) t1) (.sl m.c.data.length (m.c.data.map aInt) t2)).set (4+6) (.v (.int .i64 m.c.peak))=aRg m.state m.c m.c.peak (.sl m.c.out.length (m.c.out.map aInt) t1) (.sl m.c.data.length (m.c.data.map aInt) t2):=rfl
 push_cast (maxSteps:=999999) -implicitDefEqProofs (disch:=omega)[hρ,ht']
 refine Qk (ZD (hM ρ)) ?_
 push_cast (maxSteps:=999999) -implicitDefEqProofs (disch:=omega)[hρ,ht']
 refine Qk (frame_Peak_a (hM ρ)) ?_
 push_cast (maxSteps:=999999) -implicitDefEqProofs (disch:=omega)[hρ,aInt]
 refine Q6 rfl rfl hj (show 10 < 11 from by omega) ?_
 rw[s10]
 have hg:=Qa (o:=Res.obj 0 (aRg m.state m.c m.c.peak (.sl m.c.out.length (m.c.out.map aInt) t1) (.sl m.c.data.length (m.c.data.map aInt) t2))) hj
 obtain ⟨ρ',e'⟩:=app3 (τ:=τ) (ρ:=ρ) (x:=Res.obj 0 (aRg m.state m.c m.c.peak (.sl m.c.out.length (m.c.out.map aInt) t1) (.sl m.c.data.length (m.c.data.map aInt) t2))) hl
 rw[e'] at hg ⊢
 push_cast (maxSteps:=999999) -implicitDefEqProofs (disch:=omega)[hρ,hg,c11]
 refine Q8 (cs:=zR) rfl (one _ _ _ _ _ _ _ _) (Qj hat) (Nat.le_refl 11) ?_
 rw[hz _ rfl]
 have hgo:=Qa (o:=Res.obj 0 (aRg m.state m.c m.c.peak (.sl m.c.out.length (m.c.out.map aInt) t1) (.sl m.c.data.length (m.c.data.map aInt) t2))) (Qj (τ:=ρ') hat)
 push_cast (maxSteps:=999999) -implicitDefEqProofs (disch:=omega)[hρ,hgo,c11]
 refine ⟨⟨t1,t2,rfl,k1,k2⟩,([Res.obj 0 zR]++ρ').set 0 (.obj 0 (aRg m.state m.c m.c.peak (.sl m.c.out.length (m.c.out.map aInt) t1) (.sl m.c.data.length (m.c.data.map aInt) t2))),?_⟩
 rw[eτ,List.append_assoc,List.set_append_right _ _ (Nat.le_refl _),Nat.sub_self]
theorem Q93 {jm:Nat} {q:Pm} {pl:Pl} {σ:Kx.St} {m:Mc} (h:MaM jm q pl σ m):FnG Tryz.prog 25 [.ref jm 0 0] σ fun a σ'=>a=.agg (aRs m.state m.c m.c.peak)∧σ'=σ:=by
 refine FnG.drop0 (fun a ha=>by subst ha;exact aRs_low ..) (FnG.fz ((Xx h).mono ?_))
 rintro a σ' ⟨⟨t1,t2,rfl,_,_⟩,τ,rfl⟩
 refine ⟨[],?_,τ,rfl⟩
 have e1:=Jo (f:=aInt) (σ:=Go.Kx.freeze [] (σ++τ)) (J3 _) m.c.out t1
 have e2:=Jo (f:=aInt) (σ:=Go.Kx.freeze [] (σ++τ)) (J3 _) m.c.data t2
 simp only[aRg,AV.res,AV.resL] at e1 e2 ⊢
 rw[e1,e2];rfl
end Go.Proofs.YtelibaobkcokdaaGreat.Mx
namespace Go.Proofs.YtelibaobkcokdaaGreat.Mx
set_option linter.unusedVariables false
set_option linter.unusedSimpArgs false
open Go Go.Kx Go.Proofs Go.Proofs.YtelibaobkcokdaaGreat
set_option maxRecDepth 8000
def aVw (w:Wk):List AV:=[.v (.int .i64 w.state),.v (.int .i64 w.holds),.v (.int .i64 w.tail),.v (.int .i64 w.probed)]
theorem Gb {q:Pm} {pl:Pl} {σ:Kx.St} {L:List Wk} {s:Cs} (h:MM q pl σ L s) {k:Nat} {w:Wk} (hk:L[k]?=some w):FnG Tryz.prog 16 [.ref (pl.p (.wk k)) 0 0] σ fun a σ'=>a=.agg (aVw w)∧σ'=σ:=by
 refine FnG.drop0 (fun a ha=>by subst ha;rfl) ?_
 refine Q2 X38 mixed rfl ?_
 simp only[Z1]
 have hw:=h.wk hk
 have g1:(aWk pl k w)[1]?=some (.v (.int .i64 w.state)):=rfl
 have g2:(aWk pl k w)[2]?=some (.v (.int .i64 w.holds)):=rfl
 have g3:(aWk pl k w)[3]?=some (.v (.int .i64 w.tail)):=rfl
 have g4:(aWk pl k w)[4]?=some (.v (.int .i64 w.probed)):=rfl
 have hw':∀ρ:Kx.St,(σ++ρ)[pl.p (.wk k)]?=_:=fun ρ=>Qj hw
 have hz:∀l:List AV,l.length=4→setAtA [AV.v (.int .i64 0),AV.v (.int .i64 0),AV.v (.int .i64 0),AV.v (.int .i64 0)] 0 l=l:=fun l hl=>Q07 (by rw[hl];rfl)
 have hb:fillA [AV.v (.int .i64 0),AV.v (.int .i64 0),AV.v (.int .i64 0),AV.v (.int .i64 0)] [(0,1),(1,1),(2,1),(3,1)] [.v (.int .i64 w.state),.v (.int .i64 w.holds),.v (.int .i64 w.tail),.v (.int .i64 w.probed)]=some (aVw w):=by simp[fillA,AV.cells,Value.cells,setAtA,aVw]
 have c4:cellsA (some 4) (aVw w)=some (.agg (aVw w)):=rfl
 push_cast (maxSteps:=999999) -implicitDefEqProofs (disch:=omega)
 refine Qb ?_
 push_cast (maxSteps:=999999) -implicitDefEqProofs (disch:=omega)[hw',g1,g2,g3,g4,hb]
 refine Q8 (cs:=[AV.v (.int .i64 0),AV.v (.int .i64 0),AV.v (.int .i64 0),AV.v (.int .i64 0)]) (l:=aVw w) rfl rfl (Qc _ _) (Nat.le_refl 4) ?_
 rw[hz _ rfl,Qq]
 push_cast (maxSteps:=999999) -implicitDefEqProofs (disch:=omega)[Qc,c4]
 exact ⟨_,rfl⟩
end Go.Proofs.YtelibaobkcokdaaGreat.Mx
