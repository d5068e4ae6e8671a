/- The machine: how a run came out. -/
import Derived.Test.YtelibaobkcokdaaGreatTH2G24
import Derived.Test.YtelibaobkcokdaaGreatProg
import Derived.KernelRfl
namespace Go.Proofs.YtelibaobkcokdaaGreat.Mx
set_option linter.unusedSectionVars false
set_option linter.unusedVariables false
set_option linter.unusedSimpArgs false
open Go Go.Kx Go.Proofs Go.Proofs.YtelibaobkcokdaaGreat
set_option maxRecDepth 8000
def TkOk (d:List Int) (t:Tok):Prop:=(t=.nil∧d=[])∨∃i v,t=.id i v 1
theorem Clone_ms_k {i w:Nat} {σ:Kx.St} {d:List Int} (hd:d.length≤1000000) (hi:σ[i]?=some (.obj w (d.map aInt))):FnG Tryz.prog 89 [.ms i w 0 d.length 1] σ fun a σ'=>(∃t,a=.sl d.length (d.map aInt) t∧TkOk d t)∧∃τ,σ'=σ++τ:=by
 refine Q3 QM.2 mixed rfl ?_;simp only[QM,qH]
 have hsrc:srcA σ 1 (.ms i w 0 d.length 1)=some (d.length,d.map aInt):=by
  simp[srcA,hi,subA]
  try rw[List.take_of_length_le ke]
 have h1:(d.map aInt).all AV.one=true:=by rw[List.all_map];exact List.all_eq_true.2 fun x _=>rfl
 push_cast -implicitDefEqProofs;refine QA (sz:=1) ke ke ?_;push_cast -implicitDefEqProofs;refine X66 (n:=0) (cs:=[]) (m:=d.length) rfl hsrc ke h1 rfl ka ka ?_;push_cast -implicitDefEqProofs[List.nil_append];exact ⟨⟨_,rfl,.inr ⟨_,_,rfl⟩⟩,_,rfl⟩
theorem Clone_sl_k {σ:Kx.St} {d:List Int} {t:Tok} (hd:d.length≤1000000) (ht:t=.nil↔d=[]):FnG Tryz.prog 89 [.sl d.length (d.map aInt) t] σ fun a σ'=>(∃t,a=.sl d.length (d.map aInt) t∧TkOk d t)∧∃τ,σ'=σ++τ:=by
 refine Q3 QM.2 mixed rfl ?_;simp only[QM,qH];by_cases c:d=[]
 ·rw[ht.2 c,c];have hn:PF.av (.eqn false 1) [.sl 0 [] .nil]=some (.v (.bool true)):=rfl;push_cast -implicitDefEqProofs[List.length_nil,List.map_nil,hn];exact ⟨⟨_,rfl,.inl ⟨rfl,rfl⟩⟩,[],by simp⟩
 ·have hl:0 < d.length:=List.length_pos_iff.2 c
  have hn:PF.av (.eqn false 1) [.sl d.length (d.map aInt) t]=some (.v (.bool false)):=by
   have hl0:d.length≠0:=by omega
   have htn:t≠.nil:=fun e=>c (ht.1 e);cases t<;>first|exact absurd rfl htn|(simp[PF.av,c];done)|(simp[PF.av,hl0];done)|(simp[PF.av];done)
  have h1:(d.map aInt).all AV.one=true:=by rw[List.all_map];exact List.all_eq_true.2 fun x _=>rfl
  push_cast -implicitDefEqProofs[hn];refine QA (sz:=1) ke ke ?_;push_cast -implicitDefEqProofs;refine X66 (n:=0) (cs:=[]) (m:=d.length) rfl rfl ke h1 rfl ka ka ?_;push_cast -implicitDefEqProofs[List.nil_append];exact ⟨⟨_,rfl,.inr ⟨_,_,rfl⟩⟩,_,rfl⟩
section
variable {q:Pm} {pl:Pl} {σ:Kx.St} {L:List Wk} {s:Cs}
theorem X55 (h:MM q pl σ L s):FnG Tryz.prog 48 [.ref (pl.p .so) 0 0] σ fun a σ'=>(∃t,a=.sl s.out.length (s.out.map aInt) t∧TkOk s.out t)∧∃τ,σ'=σ++τ:=by
 refine Q3 Xw.2 mixed rfl ?_;simp only[Xw,qH];have hso:=h.at_ .so _ rfl;have ho:=h.sd.o0;have hl:=h.sd.ol;push_cast -implicitDefEqProofs[hso];refine Q0 (Clone_sl_k ka ?_) ?_
 ·cases hv:pl.ov with
  | none=>simp only[tokT,true_iff];exact ho.1 hv
  | some v=>
   simp only[tokT];constructor
   ·intro e;cases e
   ·intro e;have:=ho.2 e;rw[hv] at this;cases this
 rintro a σ' ⟨⟨t,rfl,k⟩,hs⟩;push_cast -implicitDefEqProofs;exact ⟨⟨_,rfl,k⟩,hs⟩
theorem ZU (h:MM q pl σ L s):FnG Tryz.prog 62 [.ref (pl.p .sd) 0 0] σ fun a σ'=>(∃t,a=.sl s.data.length (s.data.map aInt) t∧TkOk s.data t)∧∃τ,σ'=σ++τ:=by refine Q3 Z50.2 mixed rfl ?_;simp only[Z50,qH];have hst:=h.datas.st;have hl:=h.sd.dt;push_cast -implicitDefEqProofs[hst];refine Q0 (Clone_ms_k ka h.datas.wd) ?_;rintro a σ' ⟨⟨t,rfl,k⟩,hs⟩;push_cast -implicitDefEqProofs;exact ⟨⟨_,rfl,k⟩,hs⟩
end
theorem Qy {P:Program} {f:FuncId} {xs:List AV} {σ:Kx.St} {v:AV} {K:AV→Kx.St→Prop} (H:FnG P f xs σ fun a σ'=>a=v∧σ'=σ) (hk:act (K v σ)):act (EF.awp P (.call f) xs σ K):=by refine Q0 H ?_;rintro a s ⟨rfl,hs⟩;rw[hs];exact hk
theorem MaM.app {jm:Nat} {q:Pm} {pl:Pl} {σ:Kx.St} {m:Mc} (h:MaM jm q pl σ m) (τ:Kx.St):MaM jm q pl (σ++τ) m:=h.of (h.mm.app _) (Ext.app ..) rfl
def Mc.state (m:Mc):Int:=if m.c.status=0∧m.ended=true then 6 else m.c.status
def aRg (st:Int) (c:Cs) (pk:Int) (o d:AV):List AV:=[.v (.int .i64 st),.v (.int .i64 c.why),o,d,.v (.int .i64 c.steps),.v (.int .i64 c.probes),.v (.int .i64 c.steals),.v (.int .i64 c.parks),.v (.int .i64 c.naps),.v (.int .i64 c.folds),.v (.int .i64 pk)]
def aRs (st:Int) (c:Cs) (pk:Int):List AV:=aRg st c pk (aInts c.out) (aInts c.data)
theorem aRs_low (st:Int) (c:Cs) (pk:Int) (n:Nat):(AV.agg (aRs st c pk)).low n=true:=by have h1:∀l:List Int,AV.lowL n (l.map aInt)=true:=fun l=>low_ints n l;simp[aRs,aRg,AV.low,AV.lowL,aInts,aSl,h1]
abbrev zR:List AV:=[AV.v (.int .i64 0),AV.v (.int .i64 0),AV.sl 0 [] .nil,AV.sl 0 [] .nil,AV.v (.int .i64 0),AV.v (.int .i64 0),AV.v (.int .i64 0),AV.v (.int .i64 0),AV.v (.int .i64 0),AV.v (.int .i64 0),AV.v (.int .i64 0)]
theorem app3 {τ ρ:Kx.St} {j:Nat} {x:Res} (h:τ.length≤j):∃ρ',(τ++ρ).set j x=τ++ρ':=⟨ρ.set (j - τ.length) x,List.set_append_right _ _ h⟩
set_option maxHeartbeats 4000000 in
theorem Y3 {jm:Nat} {q:Pm} {pl:Pl} {σ:Kx.St} {m:Mc} (h:MaM jm q pl σ m):FnG Tryz.prog 25 [.ref jm 0 0] σ fun a σ'=>(∃t1 t2,a=.agg (aRg m.state m.c m.c.peak (.sl m.c.out.length (m.c.out.map aInt) t1) (.sl m.c.data.length (m.c.data.map aInt) t2))∧TkOk m.c.out t1∧TkOk m.c.data t2)∧∃τ,σ'=σ++τ:=by
 refine Q3 Q35.2 mixed rfl ?_;simp only[Q35,qH];have hz:∀l:List AV,l.length=11→setAtA zR 0 l=l:=fun l hl=>Q30 (by rw[hl];rfl);refine Qc (fun ε σ'=>(ε 0=.ref jm 0 0∧ε 2=.ref σ.length 0 0)∧σ'=σ++[.obj 0 zR]) ?_ ?_
 ·intro N X R hN;push_cast -implicitDefEqProofs;refine Qm ?_;push_cast -implicitDefEqProofs;exact hN _ _ ⟨by push_cast -implicitDefEqProofs,rfl⟩
 rintro ε σ' ⟨hρ,rfl⟩;have hA:=h.app [.obj 0 zR];have hat:(σ++[Res.obj 0 zR])[σ.length]?=some (.obj 0 zR):=Qe _ _;have hlen:σ.length < (σ++[Res.obj 0 zR]).length:=Qh hat
 obtain ⟨τ,eτ⟩:∃τ,τ=σ++[Res.obj 0 zR]:=⟨_,rfl⟩;rw[←eτ] at hA hat hlen ⊢;obtain ⟨t,ht⟩:=hA.mo;have ht':∀ρ:Kx.St,(τ++ρ)[jm]?=_:=fun ρ=>Qn ht;have hM:∀ρ:Kx.St,MM q pl (τ++ρ) m.l m.c:=fun ρ=>hA.mm.app ρ;have hc':∀ρ:Kx.St,(τ++ρ)[pl.p .c]?=_:=fun ρ=>(hM ρ).c;have hc:=hA.mm.c;have c7:cellsA (some 7) ((aCore q pl m.c).drop 13)=some (.agg [.v (.int .i64 m.c.steps),.v (.int .i64 m.c.probes),.v (.int .i64 m.c.steals),.v (.int .i64 m.c.parks),.v (.int .i64 m.c.naps),.v (.int .i64 m.c.folds),.v (.int .i64 0)]):=rfl;have x7:(AV.agg [.v (.int .i64 m.c.steps),.v (.int .i64 m.c.probes),.v (.int .i64 m.c.steals),.v (.int .i64 m.c.parks),.v (.int .i64 m.c.naps),.v (.int .i64 m.c.folds),.v (.int .i64 0)]).exact=true:=rfl;have hb:∀st n1 c1 t1 n2 c2 t2,fillA zR [(0,1),(1,1),(2,1),(3,1),(4,7)] [.v (.int .i64 st),.v (.int .i64 m.c.why),.sl n1 c1 t1,.sl n2 c2 t2,.agg [.v (.int .i64 m.c.steps),.v (.int .i64 m.c.probes),.v (.int .i64 m.c.steals),.v (.int .i64 m.c.parks),.v (.int .i64 m.c.naps),.v (.int .i64 m.c.folds),.v (.int .i64 0)]]=some (aRg st m.c 0 (.sl n1 c1 t1) (.sl n2 c2 t2)):=fun _ _ _ _ _ _ _=>rfl;have one:∀st pk n1 c1 t1 n2 c2 t2,(aRg st m.c pk (.sl n1 c1 t1) (.sl n2 c2 t2)).all AV.one=true:=fun _ _ _ _ _ _ _ _=>rfl;refine Qt (fun ε σ'=>(ε 0=.ref jm 0 0∧ε 2=.ref σ.length 0 0)∧σ'=τ) ?_ ?_
 ·intro N hN;push_cast -implicitDefEqProofs[hρ];exact hN _ _ ⟨by push_cast -implicitDefEqProofs[hρ],rfl⟩
 clear hρ ε;rintro ε σ' ⟨hρ,e⟩;rw[e];clear e σ';refine Qc (fun ε σ'=>(ε 0=.ref jm 0 0∧ε 2=.ref σ.length 0 0∧ε 3=.v (.int .i64 m.c.status)∧ε 4=.v (.int .i64 m.c.why))∧σ'=τ) ?_ ?_
 ·intro N X R hN;push_cast -implicitDefEqProofs[hρ,ht];refine Qy (Z86 hA.mm) ?_;push_cast -implicitDefEqProofs[hρ,aInt];exact hN _ _ ⟨by push_cast -implicitDefEqProofs[hρ],rfl⟩
 clear hρ ε;rintro ε σ' ⟨hρ,e⟩;rw[e];clear e σ';refine Qt (fun ε σ'=>(ε 0=.ref jm 0 0∧ε 2=.ref σ.length 0 0∧ε 3=.v (.int .i64 m.state)∧ε 4=.v (.int .i64 m.c.why))∧σ'=τ) ?_ ?_
 ·intro N hN;by_cases c:m.c.status=0
  ·push_cast -implicitDefEqProofs[hρ,c];refine Qy (Q45 hA) ?_
   cases ce:m.ended with
   | true=>have e:m.state=6:=if_pos ⟨c,ce⟩;push_cast -implicitDefEqProofs[hρ,aBool];exact hN _ _ ⟨by push_cast -implicitDefEqProofs[hρ,e],rfl⟩
   | false=>
    have e:m.state=0:=by unfold Mc.state;rw[if_neg (by rw[ce];simp)];exact c
    push_cast -implicitDefEqProofs[hρ,aBool];exact hN _ _ ⟨by push_cast -implicitDefEqProofs[hρ,e,c],rfl⟩
  ·have e:m.state=m.c.status:=if_neg fun x=>c x.1;push_cast -implicitDefEqProofs[hρ,c];exact hN _ _ ⟨by push_cast -implicitDefEqProofs[hρ,e],rfl⟩
 clear hρ ε;rintro ε σ' ⟨hρ,e⟩;rw[e];clear e σ';refine Qc (fun ε σ'=>∃j ρ t1 t2,(ε 0=.ref jm 0 0∧ε 2=.ref σ.length 0 0∧ε 5=.ref j 0 0)∧σ'=τ++ρ∧(τ++ρ)[j]?=some (.obj 0 (aRg m.state m.c 0 (.sl m.c.out.length (m.c.out.map aInt) t1) (.sl m.c.data.length (m.c.data.map aInt) t2)))∧τ.length≤j∧TkOk m.c.out t1∧TkOk m.c.data t2) ?_ ?_
 ·intro N X R hN;push_cast -implicitDefEqProofs[hρ,ht,ht',hc,hc',c7,x7,hb]
  have fin:∀(ε':AEnv) (S:Kx.St) (j:Nat) (ρ:Kx.St) (t1 t2:Tok),S=τ++ρ→S[j]?=some (.obj 0 zR)→τ.length≤j→TkOk m.c.out t1→TkOk m.c.data t2→(ε' 0=.ref jm 0 0∧ε' 2=.ref σ.length 0 0∧ε' 5=.ref j 0 0) →
    act (N ε' (S.set j (.obj 0 (aRg m.state m.c 0 (.sl m.c.out.length (m.c.out.map aInt) t1) (.sl m.c.data.length (m.c.data.map aInt) t2))))):=by
   intro ε' S j ρ t1 t2 e hj hl k1 k2 he;subst e;obtain ⟨ρ',e'⟩:=app3 (τ:=τ) (ρ:=ρ) (x:=Res.obj 0 (aRg m.state m.c 0 (.sl m.c.out.length (m.c.out.map aInt) t1) (.sl m.c.data.length (m.c.data.map aInt) t2))) hl;refine hN _ _ ⟨j,ρ',t1,t2,he,e',?_,hl,k1,k2⟩;rw[←e'];exact Qb hj
  refine both2 ?_ ?_
  ·refine Qy (X51 hA.mm) ?_;push_cast -implicitDefEqProofs[hρ,ht,ht',hc,hc',c7,x7,hb,List.append_assoc];refine both2 ?_ ?_
   ·refine Q0 (X55 hA.mm) ?_;rintro a σ' ⟨⟨t1,rfl,k1⟩,ρ1,hs⟩;rw[hs];clear hs;push_cast -implicitDefEqProofs[hρ,ht,ht',hc,hc',c7,x7,hb,List.append_assoc];refine both2 ?_ ?_
    ·refine Qy (Q17 (hM _)) ?_;push_cast -implicitDefEqProofs[hρ,ht,ht',hc,hc',c7,x7,hb,List.append_assoc];refine both2 ?_ ?_
     ·refine Q0 (ZU (hM _)) ?_;rintro a σ' ⟨⟨t2,rfl,k2⟩,ρ2,hs⟩;rw[hs,List.append_assoc];clear hs;push_cast -implicitDefEqProofs[hρ,ht,ht',hc,hc',c7,x7,hb,List.append_assoc];refine both2 ?_ ?_
      ·refine Qy (Q08 (hM _)) ?_;push_cast -implicitDefEqProofs[hρ,ht,ht',hc,hc',c7,x7,hb,List.append_assoc];refine Qm ?_;push_cast -implicitDefEqProofs[hρ,ht,ht',hc,hc',c7,x7,hb,List.append_assoc];refine Qd (cs:=zR) rfl (one _ _ _ _ _ _ _ _) ke (Nat.le_refl 11) ?_;rw[hz _ rfl];push_cast -implicitDefEqProofs[hρ,List.append_assoc];exact fin _ _ _ _ t1 t2 rfl ke ke k1 k2 oF
      ·refine Qm ?_;push_cast -implicitDefEqProofs[hρ,ht,ht',hc,hc',c7,x7,hb,List.append_assoc];refine Qy (Q08 (hM _)) ?_;push_cast -implicitDefEqProofs[hρ,ht,ht',hc,hc',c7,x7,hb,List.append_assoc];refine Qd (cs:=zR) rfl (one _ _ _ _ _ _ _ _) ke (Nat.le_refl 11) ?_;rw[hz _ rfl];push_cast -implicitDefEqProofs[hρ,List.append_assoc];exact fin _ _ _ _ t1 t2 rfl ke ke k1 k2 oF
     ·refine Qm ?_;push_cast -implicitDefEqProofs[hρ,ht,ht',hc,hc',c7,x7,hb,List.append_assoc];refine Q0 (ZU (hM _)) ?_;rintro a σ' ⟨⟨t2,rfl,k2⟩,ρ2,hs⟩;rw[hs,List.append_assoc];clear hs;push_cast -implicitDefEqProofs[hρ,ht,ht',hc,hc',c7,x7,hb,List.append_assoc];refine Qy (Q08 (hM _)) ?_;push_cast -implicitDefEqProofs[hρ,ht,ht',hc,hc',c7,x7,hb,List.append_assoc];refine Qd (cs:=zR) rfl (one _ _ _ _ _ _ _ _) ke (Nat.le_refl 11) ?_;rw[hz _ rfl];push_cast -implicitDefEqProofs[hρ,List.append_assoc];exact fin _ _ _ _ t1 t2 rfl ke ke k1 k2 oF
    ·refine Qm ?_;push_cast -implicitDefEqProofs[hρ,ht,ht',hc,hc',c7,x7,hb,List.append_assoc];refine Qy (Q17 (hM _)) ?_;push_cast -implicitDefEqProofs[hρ,ht,ht',hc,hc',c7,x7,hb,List.append_assoc];refine Q0 (ZU (hM _)) ?_;rintro a σ' ⟨⟨t2,rfl,k2⟩,ρ2,hs⟩;rw[hs,List.append_assoc];clear hs;push_cast -implicitDefEqProofs[hρ,ht,ht',hc,hc',c7,x7,hb,List.append_assoc];refine Qy (Q08 (hM _)) ?_;push_cast -implicitDefEqProofs[hρ,ht,ht',hc,hc',c7,x7,hb,List.append_assoc];refine Qd (cs:=zR) rfl (one _ _ _ _ _ _ _ _) ke (Nat.le_refl 11) ?_;rw[hz _ rfl];push_cast -implicitDefEqProofs[hρ,List.append_assoc];exact fin _ _ _ _ t1 t2 rfl ke ke k1 k2 oF
   ·refine Qm ?_;push_cast -implicitDefEqProofs[hρ,ht,ht',hc,hc',c7,x7,hb,List.append_assoc];refine Q0 (X55 (hM _)) ?_;rintro a σ' ⟨⟨t1,rfl,k1⟩,ρ1,hs⟩;rw[hs,List.append_assoc];clear hs;push_cast -implicitDefEqProofs[hρ,ht,ht',hc,hc',c7,x7,hb,List.append_assoc];refine Qy (Q17 (hM _)) ?_;push_cast -implicitDefEqProofs[hρ,ht,ht',hc,hc',c7,x7,hb,List.append_assoc];refine Q0 (ZU (hM _)) ?_;rintro a σ' ⟨⟨t2,rfl,k2⟩,ρ2,hs⟩;rw[hs,List.append_assoc];clear hs;push_cast -implicitDefEqProofs[hρ,ht,ht',hc,hc',c7,x7,hb,List.append_assoc];refine Qy (Q08 (hM _)) ?_;push_cast -implicitDefEqProofs[hρ,ht,ht',hc,hc',c7,x7,hb,List.append_assoc];refine Qd (cs:=zR) rfl (one _ _ _ _ _ _ _ _) ke (Nat.le_refl 11) ?_;rw[hz _ rfl];push_cast -implicitDefEqProofs[hρ,List.append_assoc];exact fin _ _ _ _ t1 t2 rfl ke ke k1 k2 oF
  ·refine Qm ?_;push_cast -implicitDefEqProofs[hρ,ht,ht',hc,hc',c7,x7,hb,List.append_assoc];refine Qy (X51 (hM _)) ?_;push_cast -implicitDefEqProofs[hρ,ht,ht',hc,hc',c7,x7,hb,List.append_assoc];refine Q0 (X55 (hM _)) ?_;rintro a σ' ⟨⟨t1,rfl,k1⟩,ρ1,hs⟩;rw[hs,List.append_assoc];clear hs;push_cast -implicitDefEqProofs[hρ,ht,ht',hc,hc',c7,x7,hb,List.append_assoc];refine Qy (Q17 (hM _)) ?_;push_cast -implicitDefEqProofs[hρ,ht,ht',hc,hc',c7,x7,hb,List.append_assoc];refine Q0 (ZU (hM _)) ?_;rintro a σ' ⟨⟨t2,rfl,k2⟩,ρ2,hs⟩;rw[hs,List.append_assoc];clear hs;push_cast -implicitDefEqProofs[hρ,ht,ht',hc,hc',c7,x7,hb,List.append_assoc];refine Qy (Q08 (hM _)) ?_;push_cast -implicitDefEqProofs[hρ,ht,ht',hc,hc',c7,x7,hb,List.append_assoc];refine Qd (cs:=zR) rfl (one _ _ _ _ _ _ _ _) ke (Nat.le_refl 11) ?_;rw[hz _ rfl];push_cast -implicitDefEqProofs[hρ,List.append_assoc];exact fin _ _ _ _ t1 t2 rfl ke ke k1 k2 oF
 clear hρ ε;rintro ε σ' ⟨j,ρ,t1,t2,hρ,rfl,hj,hl,k1,k2⟩;have c11:∀pk,cellsA (some 11) (aRg m.state m.c pk (.sl m.c.out.length (m.c.out.map aInt) t1) (.sl m.c.data.length (m.c.data.map aInt) t2))=some (.agg (aRg m.state m.c pk (.sl m.c.out.length (m.c.out.map aInt) t1) (.sl m.c.data.length (m.c.data.map aInt) t2))):=fun _=>rfl;have s10:(aRg m.state m.c 0 (.sl m.c.out.length (m.c.out.map aInt) t1) (.sl m.c.data.length (m.c.data.map aInt) t2)).set (4+6) (.v (.int .i64 m.c.peak))=aRg m.state m.c m.c.peak (.sl m.c.out.length (m.c.out.map aInt) t1) (.sl m.c.data.length (m.c.data.map aInt) t2):=rfl;push_cast -implicitDefEqProofs[hρ,ht'];refine Qy (Zz (hM ρ)) ?_;push_cast -implicitDefEqProofs[hρ,ht'];refine Qy (frame_Peak_a (hM ρ)) ?_;push_cast -implicitDefEqProofs[hρ,aInt];refine Q9 rfl rfl hj (show 10 < 11 from by omega) ?_;rw[s10];have hg:=Qb (o:=Res.obj 0 (aRg m.state m.c m.c.peak (.sl m.c.out.length (m.c.out.map aInt) t1) (.sl m.c.data.length (m.c.data.map aInt) t2))) hj;obtain ⟨ρ',e'⟩:=app3 (τ:=τ) (ρ:=ρ) (x:=Res.obj 0 (aRg m.state m.c m.c.peak (.sl m.c.out.length (m.c.out.map aInt) t1) (.sl m.c.data.length (m.c.data.map aInt) t2))) hl;rw[e'] at hg ⊢;push_cast -implicitDefEqProofs[hρ,hg,c11];refine Qd (cs:=zR) rfl (one _ _ _ _ _ _ _ _) (Qn hat) (Nat.le_refl 11) ?_;rw[hz _ rfl];have hgo:=Qb (o:=Res.obj 0 (aRg m.state m.c m.c.peak (.sl m.c.out.length (m.c.out.map aInt) t1) (.sl m.c.data.length (m.c.data.map aInt) t2))) (Qn (τ:=ρ') hat);push_cast -implicitDefEqProofs[hρ,hgo,c11];refine ⟨⟨t1,t2,rfl,k1,k2⟩,([Res.obj 0 zR]++ρ').set 0 (.obj 0 (aRg m.state m.c m.c.peak (.sl m.c.out.length (m.c.out.map aInt) t1) (.sl m.c.data.length (m.c.data.map aInt) t2))),?_⟩;rw[eτ,List.append_assoc,List.set_append_right _ _ (Nat.le_refl _),Nat.sub_self]
theorem Xi {jm:Nat} {q:Pm} {pl:Pl} {σ:Kx.St} {m:Mc} (h:MaM jm q pl σ m):FnG Tryz.prog 25 [.ref jm 0 0] σ fun a σ'=>a=.agg (aRs m.state m.c m.c.peak)∧σ'=σ:=by refine FnG.drop0 (fun a ha=>by subst ha;exact aRs_low ..) (FnG.fz ((Y3 h).mono ?_));rintro a σ' ⟨⟨t1,t2,rfl,_,_⟩,τ,rfl⟩;refine ⟨[],?_,τ,rfl⟩;have e1:=aSl_res (f:=aInt) (σ:=Go.Kx.freeze [] (σ++τ)) (aInt_res _) m.c.out t1;have e2:=aSl_res (f:=aInt) (σ:=Go.Kx.freeze [] (σ++τ)) (aInt_res _) m.c.data t2;simp only[aRg,AV.res,AV.resL] at e1 e2 ⊢;rw[e1,e2];rfl
end Go.Proofs.YtelibaobkcokdaaGreat.Mx
namespace Go.Proofs.YtelibaobkcokdaaGreat.Mx
set_option linter.unusedVariables false
set_option linter.unusedSimpArgs false
open Go Go.Kx Go.Proofs Go.Proofs.YtelibaobkcokdaaGreat
set_option maxRecDepth 8000
def aVw (w:Wk):List AV:=[.v (.int .i64 w.state),.v (.int .i64 w.holds),.v (.int .i64 w.tail),.v (.int .i64 w.probed)]
theorem J0 {q:Pm} {pl:Pl} {σ:Kx.St} {L:List Wk} {s:Cs} (h:MM q pl σ L s) {k:Nat} {w:Wk} (hk:L[k]?=some w):FnG Tryz.prog 16 [.ref (pl.p (.wk k)) 0 0] σ fun a σ'=>a=.agg (aVw w)∧σ'=σ:=by
 refine FnG.drop0 (fun a ha=>by subst ha;rfl) ?_;refine Q3 Q99.2 mixed rfl ?_;simp only[Q99,qH];have hw:=h.wk hk;have g1:(aWk pl k w)[1]?=some (.v (.int .i64 w.state)):=rfl;have g2:(aWk pl k w)[2]?=some (.v (.int .i64 w.holds)):=rfl;have g3:(aWk pl k w)[3]?=some (.v (.int .i64 w.tail)):=rfl;have g4:(aWk pl k w)[4]?=some (.v (.int .i64 w.probed)):=rfl;have hw':∀ρ:Kx.St,(σ++ρ)[pl.p (.wk k)]?=_:=fun ρ=>Qn hw;have hz:∀l:List AV,l.length=4→setAtA [AV.v (.int .i64 0),AV.v (.int .i64 0),AV.v (.int .i64 0),AV.v (.int .i64 0)] 0 l=l:=fun l hl=>Q30 (by rw[hl];rfl);have hb:fillA [AV.v (.int .i64 0),AV.v (.int .i64 0),AV.v (.int .i64 0),AV.v (.int .i64 0)] [(0,1),(1,1),(2,1),(3,1)] [.v (.int .i64 w.state),.v (.int .i64 w.holds),.v (.int .i64 w.tail),.v (.int .i64 w.probed)]=some (aVw w):=by simp[fillA,AV.cells,Value.cells,setAtA,aVw]
 have c4:cellsA (some 4) (aVw w)=some (.agg (aVw w)):=rfl;push_cast -implicitDefEqProofs;refine Qm ?_;push_cast -implicitDefEqProofs[hw',g1,g2,g3,g4,hb];refine Qd (cs:=[AV.v (.int .i64 0),AV.v (.int .i64 0),AV.v (.int .i64 0),AV.v (.int .i64 0)]) (l:=aVw w) rfl rfl (Qe _ _) (Nat.le_refl 4) ?_;rw[hz _ rfl,Qu];push_cast -implicitDefEqProofs[Qe,c4];exact ⟨_,rfl⟩
end Go.Proofs.YtelibaobkcokdaaGreat.Mx
namespace Go.Proofs.YtelibaobkcokdaaGreat
open Go Go.Kx Go.Proofs
set_option linter.unusedVariables false
set_option maxRecDepth 100000
set_option maxHeartbeats 16000000
noncomputable def Zl:=qH Tryz.prog 18
noncomputable def Q64:=qH Tryz.prog 26
noncomputable def Zm:=qH Tryz.prog 55
noncomputable def Zn:=qH Tryz.prog 108
end Go.Proofs.YtelibaobkcokdaaGreat
namespace Go.Proofs.YtelibaobkcokdaaGreat.Mx
set_option linter.unusedVariables false
set_option linter.unusedSimpArgs false
open Go Go.Kx Go.Proofs Go.Proofs.YtelibaobkcokdaaGreat
set_option maxRecDepth 8000
def moreI (k:Int):Int:=if k=1 then 1 else if k=4 then -1 else 0
def actv (l:List Vt) (p:Int):Int:=l.foldl (fun n e=>if e.loop=p then n+moreI e.kind else n) 0
theorem X39 (l:List Vt) (e:Vt) (p:Int):actv (l++[e]) p=if e.loop=p then actv l p+moreI e.kind else actv l p:=by unfold actv;rw[List.foldl_append];rfl
def lpAt (l:List Vt) (i:Nat):Int:=match l[i]? with|some e=>e.loop|none=>0
def mostAt (l:List Vt):Nat→Int
 | 0=>0
 | i+1=>max (mostAt l i) (actv (l.take (i+1)) (lpAt l i))
theorem mostAt_s (l:List Vt) (i:Nat):mostAt l (i+1)=max (mostAt l i) (actv (l.take (i+1)) (lpAt l i)):=rfl
def mostF (l:List Vt):Int:=mostAt l l.length
theorem moreI_b (k:Int):-1≤moreI k∧moreI k≤1:=by
 unfold moreI
 repeat' split
 all_goals omega
theorem actv_b (l:List Vt) (p:Int):-(l.length:Int)≤actv l p∧actv l p≤l.length:=by
 induction l using Y69 with
 | h0=>simp[actv]
 | hs l e ih=>rw[X39];have:=moreI_b e.kind;simp only[List.length_append,List.length_singleton];split<;>omega
theorem mostAt_b (l:List Vt):∀i,0≤mostAt l i∧mostAt l i≤l.length:=by
 intro i
 induction i with
 | zero=>simp[mostAt]
 | succ i ih=>
  have:=actv_b (l.take (i+1)) (lpAt l i);have h2:(l.take (i+1)).length≤l.length:=by rw[List.length_take];omega
  rw[mostAt_s];omega
def UB (l:List Vt) (i k:Nat) (x:Int):Prop:=0≤x∧x≤l.length∧∀y,0≤y→(x≤y↔(∀i',i' < i→∀k',k' < i'→actv (l.take i') (lpAt l k')≤y)∧∀k',k' < k→actv (l.take i) (lpAt l k')≤y)
def active (l:List Vt) (p:Int):Int:=max (actv l p) 0
theorem UB.zero (l:List Vt):UB l 0 0 0:=⟨by omega,by omega,fun y hy=>⟨fun _=>⟨fun i h=>by omega,fun k h=>by omega⟩,fun _=>hy⟩⟩
theorem UB.next {l:List Vt} {i k:Nat} {x:Int} (h:UB l i k x) (hi:i≤l.length):UB l i (k+1) (max x (active (l.take i) (lpAt l k))):=by
 obtain ⟨h0,h1,h2⟩:=h;have hb:=actv_b (l.take i) (lpAt l k);have hl:(l.take i).length≤l.length:=by rw[List.length_take];omega
 refine ⟨by omega,by unfold active;omega,fun y hy=>?_⟩;have e:max x (active (l.take i) (lpAt l k))≤y↔x≤y∧actv (l.take i) (lpAt l k)≤y:=by unfold active;omega
 rw[e,h2 y hy];constructor
 ·rintro ⟨⟨a,b⟩,c⟩;refine ⟨a,fun k' hk=>?_⟩;by_cases hc:k'=k
  ·subst hc;exact c
  ·exact b k' ka
 ·rintro ⟨a,b⟩;exact ⟨⟨a,fun k' hk=>b k' ka⟩,b k ka⟩
def getI (A:List (Int×Int)) (i:Int):Int:=match A with|[]=>0|p::A=>if i=p.1 then p.2 else getI A i
def putI (A:List (Int×Int)) (i x:Int):List (Int×Int):=match A with|[]=>[(i,x)]|p::A=>if i=p.1 then (i,x)::A else p::putI A i x
def esI (A:List (Int×Int)):List (Value×AV):=A.map fun p=>(.int .i64 p.1,.v (.int .i64 p.2))
theorem getM_I (A:List (Int×Int)) (i:Int):getM (.int .i64) (absV (.int .i64 0)) (.int .i64 i) (esI A)=some (.v (.int .i64 (getI A i))):=by
 induction A with
 | nil=>rfl
 | cons p A ih=>
  simp only[esI,List.map_cons,getM,eqC,if_true,getI] at ih ⊢;by_cases h:i=p.1
  ·subst h;simp
  ·rw[show (i==p.1)=false by simpa using h,if_neg h];exact ih
theorem putM_I (A:List (Int×Int)) (i x:Int):putM (.int .i64) (.int .i64 i) (.v (.int .i64 x)) (esI A)=some (esI (putI A i x)):=by
 induction A with
 | nil=>rfl
 | cons p A ih=>
  simp only[esI,List.map_cons,putM,eqC,if_true,putI] at ih ⊢;by_cases h:i=p.1
  ·subst h;simp[Instr.sameBits]
  ·rw[show (i==p.1)=false by simpa using h,if_neg h];simp only[ih,Option.map_some,List.map_cons]
theorem X40 (A:List (Int×Int)) (i x j:Int):getI (putI A i x) j=if j=i then x else getI A j:=by
 induction A with
 | nil=>simp[putI,getI]
 | cons p A ih=>
  simp only[putI];by_cases h:i=p.1
  ·subst h;simp only[if_true,getI];split<;>rfl
  ·rw[if_neg h];simp only[getI,ih];by_cases h2:j=p.1
   ·rw[if_pos h2,if_pos h2,if_neg ka]
   ·rw[if_neg h2,if_neg h2]
def aVts (l:List Vt):AV:=.sl l.length (l.flatMap aVt) .none
theorem Y12 (l:List Vt):(aVts l).pure=true:=by
 have:AV.pureL (l.flatMap aVt)=true:=by
  induction l with
  | nil=>rfl
  | cons x l ih=>rw[List.flatMap_cons,show ∀k,AV.pureL (aVt x++k)=AV.pureL k from fun k=>by simp[aVt,AV.pureL,AV.pure]];exact ih
 simp[aVts,AV.pure,this]
theorem c4v (e:Vt) (t:List AV):cellsA (some 4) (aVt e++t)=some (.agg (aVt e)):=by simp[cellsA,aVt]
theorem Q70 (e:Vt):FnP Tryz.prog 60 [.agg (aVt e)] fun a=>a=aInt (moreI e.kind):=by
 refine Qj X02.2 mixed rfl (by simp[AV.pureL,AV.pure,aVt]) ?_;simp only[X02,qH];have hac:(AV.agg (aVt e)).cells=aVt e:=rfl;have g0:(aVt e)[0]?=some (.v (.int .i64 e.kind)):=rfl;have g0':(aVt e)[Int.toNat 0]?=some (.v (.int .i64 e.kind)):=rfl;by_cases c1:e.kind=1
 ·have hm:moreI e.kind=1:=by unfold moreI;rw[if_pos c1]
  rw[hm];push_cast -implicitDefEqProofs;refine Q6 ?_;push_cast -implicitDefEqProofs[hac,g0,g0',c1];exact oo
 by_cases c4:e.kind=4
 ·have hm:moreI e.kind=-1:=by unfold moreI;rw[if_neg c1,if_pos c4]
  rw[hm];push_cast -implicitDefEqProofs;refine Q6 ?_;push_cast -implicitDefEqProofs[hac,g0,g0',c4];exact oo
 ·have hm:moreI e.kind=0:=by unfold moreI;rw[if_neg c1,if_neg c4]
  rw[hm];push_cast -implicitDefEqProofs;refine Q6 ?_;push_cast -implicitDefEqProofs[hac,g0,g0',c1,c4];exact oo
end Go.Proofs.YtelibaobkcokdaaGreat.Mx
namespace Go.Proofs.YtelibaobkcokdaaGreat.Mx.In
set_option linter.unusedVariables false
set_option linter.unusedSimpArgs false
open Go Go.Kx Go.Proofs Go.Proofs.YtelibaobkcokdaaGreat Go.Proofs.YtelibaobkcokdaaGreat.Mx
theorem okG_app (T:Int):∀(l k p:List Vt),okG T p (l++k)=(okG T p l&&okG T (p++l) k)
 | [],k,p=>by simp[okG]
 | x::l,k,p=>by simp only[List.cons_append,okG];rw[okG_app T l k];simp[Bool.and_assoc]
theorem okG_take {T:Int} {l:List Vt} (h:okG T [] l=true) (i:Nat):okG T [] (l.take i)=true:=by rw[←List.take_append_drop i l,okG_app] at h;exact (Bool.and_eq_true _ _ ▸ h).1
theorem okG_at {T:Int} {l:List Vt} (h:okG T [] l=true) {i:Nat} {e:Vt} (he:l[i]?=some e) (hk:e.kind=1):okC T (l.take i) e=true:=by have h1:=okG_take h (i+1);rw[Qp he,okG_n] at h1;have h2:=(Bool.and_eq_true _ _ ▸ h1).2;rw[decide_eq_false (p:=e.kind≠1) ka] at h2;exact h2
theorem okC_of {T:Int} {l:List Vt} {e:Vt} (h:okC T l e=true):nsL l e.loop=e.iter∧(e.iter=0∨pasL l e.loop (e.iter - 1)=true)∧(e.iter < T∨finL l e.loop (e.iter - T)=true):=by unfold okC at h;simp only[Bool.and_eq_true,Bool.or_eq_true,decide_eq_true_eq] at h;exact ⟨h.1.1,h.1.2,h.2⟩
def feL (l:List Vt) (a:Int):Nat:=l.countP fun e:Vt=>decide (e.kind=4∧e.loop=a)
def fnL (l:List Vt) (a:Int) (n:Nat):Nat:=l.countP fun e:Vt=>decide (e.kind=4∧e.loop=a∧0≤e.iter∧e.iter < (n:Int))
theorem feL_n (l:List Vt) (e:Vt) (a:Int):feL (l++[e]) a=if e.kind=4∧e.loop=a then feL l a+1 else feL l a:=by
 unfold feL;rw[List.countP_append,List.countP_singleton];by_cases c:e.kind=4∧e.loop=a
 ·rw[if_pos c,decide_eq_true c];simp
 ·rw[if_neg c,decide_eq_false c];simp
theorem actv_eq (l:List Vt) (a:Int):actv l a=nsL l a - feL l a:=by
 induction l using Y69 with
 | h0=>rfl
 | hs l e ih=>
  rw[X39,nsL_n,feL_n,ih];unfold moreI updI;by_cases c:e.loop=a
  ·subst c;by_cases c1:e.kind=1
   ·rw[if_pos rfl,if_pos c1,if_pos c1,if_pos rfl,if_neg (show ¬(e.kind=4∧e.loop=e.loop) from by omega)];omega
   ·by_cases c4:e.kind=4
    ·rw[if_pos rfl,if_neg c1,if_pos c4,if_neg c1,if_pos ⟨c4,rfl⟩];omega
    ·rw[if_pos rfl,if_neg c1,if_neg c4,if_neg c1,if_neg (show ¬(e.kind=4∧e.loop=e.loop) from fun x=>c4 x.1)];omega
  ·have c':¬a=e.loop:=fun x=>c x.symm;have c2:¬(e.kind=4∧e.loop=a):=fun x=>c x.2;by_cases c1:e.kind=1
   ·rw[if_neg c,if_pos c1,if_neg c',if_neg c2]
   ·rw[if_neg c,if_neg c1,if_neg c2]
theorem fnL_s (l:List Vt) (a:Int) (n:Nat):fnL l a (n+1)=fnL l a n+l.countP fun e:Vt=>decide (e.kind=4∧e.loop=a∧e.iter=(n:Int)):=by
 induction l with
 | nil=>rfl
 | cons e l ih=>
  unfold fnL at ih ⊢;simp only[List.countP_cons];rw[ih];by_cases c:e.kind=4∧e.loop=a
  ·simp only[c.1,c.2,true_and,decide_eq_true_eq];by_cases d:e.iter=n
   ·rw[if_pos ka,if_neg ka,if_pos d];omega
   ·by_cases d2:0≤e.iter∧e.iter < n
    ·rw[if_pos ka,if_pos d2,if_neg d];omega
    ·rw[if_neg ka,if_neg d2,if_neg d];omega
  ·simp only[decide_eq_true_eq];rw[if_neg (fun x=>c ⟨x.1,x.2.1⟩),if_neg (fun x=>c ⟨x.1,x.2.1⟩),if_neg (fun x=>c ⟨x.1,x.2.1⟩)];omega
theorem fnL_le (l:List Vt) (a:Int) (n:Nat):fnL l a n≤feL l a:=by unfold fnL feL;exact List.countP_mono_left fun e _ h=>by have h:=of_decide_eq_true h;exact decide_eq_true ⟨h.1,h.2.1⟩
theorem fnL_ge {l:List Vt} {a:Int}:∀{n:Nat},(∀j:Nat,j < n→finL l a j=true)→n≤fnL l a n
 | 0,_=>Nat.zero_le _
 | n+1,h=>by
  have h1:=fnL_ge (l:=l) (a:=a) (n:=n) fun j hj=>h j ka;have h2:0 < l.countP fun e:Vt=>decide (e.kind=4∧e.loop=a∧e.iter=(n:Int)):=by have:=h n ka;unfold finL at this;obtain ⟨e,he,hd⟩:=List.any_eq_true.1 this;exact List.countP_pos_iff.2 ⟨e,he,hd⟩
  rw[fnL_s];omega
theorem far_ok {T:Int} (hT:0≤T):∀{l:List Vt},okG T [] l=true→∀(a:Int) (j:Nat),(j:Int)+T < nsL l a→finL l a j=true:=by
 intro l
 induction l using Y69 with
 | h0=>intro _ a j hj;exfalso;have:nsL [] a=0:=rfl;omega
 | hs l e ih=>
  intro h a j hj;rw[okG_n] at h;obtain ⟨h1,h2⟩:=Bool.and_eq_true _ _ ▸ h;have m:finL l a j=true→finL (l++[e]) a j=true:=fun x=>by unfold finL at x ⊢;rw[List.any_append,x];rfl
  rw[nsL_n] at hj;by_cases c:e.kind=1
  ·rw[if_pos c] at hj;unfold updI at hj;by_cases d:a=e.loop
   ·rw[if_pos d] at hj;rw[decide_eq_false (p:=e.kind≠1) ka] at h2;obtain ⟨k1,_,k3⟩:=okC_of (l:=[]++l) h2;rw[List.nil_append] at k1 k3;by_cases f:(j:Int)+T < nsL l a
    ·exact m (ih h1 a j f)
    ·rw[←d] at k1 k3;rw[←d] at hj;rcases k3 with k3|k3
     ·omega
     ·have:e.iter - T=j:=by omega
      rw[this] at k3;exact m k3
   ·rw[if_neg d] at hj;exact m (ih h1 a j hj)
  ·rw[if_neg c] at hj;exact m (ih h1 a j hj)
theorem actv_le {T:Int} (hT:0≤T) {l:List Vt} (h:okG T [] l=true) (a:Int):actv l a≤T:=by
 rw[actv_eq];by_cases c:nsL l a≤T
 ·omega
 ·have h1:=fnL_ge (l:=l) (a:=a) (n:=(nsL l a - T).toNat) fun j hj=>far_ok hT h a j ka;have h2:=fnL_le l a (nsL l a - T).toNat
  omega
theorem most_le {T:Int} (hT:0≤T) {l:List Vt} (h:okG T [] l=true):mostF l≤T:=by
 have:∀i,mostAt l i≤T:=by
  intro i
  induction i with
  | zero=>exact hT
  | succ i ih=>have:=actv_le hT (okG_take h (i+1)) (lpAt l i);rw[mostAt_s];omega
 exact this _
end Go.Proofs.YtelibaobkcokdaaGreat.Mx.In
namespace Go.Proofs.YtelibaobkcokdaaGreat.Mx
set_option linter.unusedVariables false
set_option linter.unusedSimpArgs false
open Go Go.Kx Go.Proofs Go.Proofs.YtelibaobkcokdaaGreat Go.Proofs.YtelibaobkcokdaaGreat.Mx.In
set_option maxRecDepth 8000
def lfE (l:List Vt) (e:Vt):Bool:=decide (e.iter=0)||pasL l e.loop (e.iter - 1)
def ffE (T:Int) (l:List Vt) (e:Vt):Bool:=decide (e.iter < T)||finL l e.loop (e.iter - T)
theorem lfE_n {l:List Vt} {e g:Vt} (h:g.loop≠e.loop):lfE (l++[g]) e=lfE l e:=by unfold lfE pasL;rw[List.any_append];simp[h]
theorem lfE_s {l:List Vt} {e g:Vt} (h:g.loop=e.loop):lfE (l++[g]) e=(lfE l e||decide ((g.kind=3∨g.kind=6∨g.kind=4)∧g.iter=e.iter - 1)):=by unfold lfE pasL;rw[List.any_append];simp[h,Bool.or_assoc]
theorem ffE_n {T:Int} {l:List Vt} {e g:Vt} (h:g.loop≠e.loop):ffE T (l++[g]) e=ffE T l e:=by unfold ffE finL;rw[List.any_append];simp[h]
theorem ffE_s {T:Int} {l:List Vt} {e g:Vt} (h:g.loop=e.loop):ffE T (l++[g]) e=(ffE T l e||decide (g.kind=4∧g.iter=e.iter - T)):=by unfold ffE finL;rw[List.any_append];simp[h,Bool.or_assoc]
theorem nsL_s {l:List Vt} {g:Vt} (a:Int):nsL (l++[g]) a=if g.kind=1∧g.loop=a then nsL l a+1 else nsL l a:=by
 unfold nsL;rw[List.countP_append,List.countP_singleton];by_cases c:g.kind=1∧g.loop=a
 ·rw[if_pos c,decide_eq_true c];simp
 ·rw[if_neg c,decide_eq_false c];simp
theorem nsL_b (l:List Vt) (a:Int):0≤nsL l a∧nsL l a≤l.length:=by have:=List.countP_le_length (p:=fun e:Vt=>decide (e.kind=1∧e.loop=a)) (l:=l);unfold nsL;omega
theorem vt_f {l:List Vt} {i:Nat} {e:Vt} (he:l[i]?=some e):(l.flatMap aVt)[i * 4]?=some (.v (.int .i64 e.kind))∧(l.flatMap aVt)[i * 4+1]?=some (.v (.int .i64 e.loop))∧(l.flatMap aVt)[i * 4+2]?=some (.v (.int .i64 e.iter)):=by
 have hd:=QQ YX he;refine ⟨?_,?_,?_⟩
 ·have:=congrArg (fun l=>l[0]?) hd;rw[List.getElem?_drop] at this;exact this
 ·have:=congrArg (fun l=>l[1]?) hd;rw[List.getElem?_drop] at this;exact this
 ·have:=congrArg (fun l=>l[2]?) hd;rw[List.getElem?_drop] at this;exact this
set_option maxHeartbeats 16000000 in
theorem Y13 (l:List Vt) (hl:l.length≤1000000) {T:Int} (hT:1≤T∧T≤64) (h:okG T [] l=true) (t:Tok) (ht:t=.nil∨t=.none):FnP Tryz.prog 26 [.sl l.length (l.flatMap aVt) t,.v (.int .i64 T)] fun a=>a=aBool true:=by
 refine Qj Q64.2 mixed rfl ox ?_;simp only[Q64,qH];push_cast -implicitDefEqProofs
 refine ZE (α:=Nat) (I:=fun i ε σ=>(ε 0=.sl l.length (l.flatMap aVt) t∧ε 1=.v (.int .i64 T)∧ε 5=.v (.int .i64 i))∧i≤l.length)
  (μ:=fun i=>l.length - i) (Q:=fun ε σ=>True) (x:=0) ?_ ?_ ?_
 ·push_cast -implicitDefEqProofs
  first|omega|trivial
 ·rintro i ε σ N E ⟨hρ,hi⟩ hN hE;by_cases hlt:i < l.length
  rotate_left
  ·push_cast -implicitDefEqProofs[hρ];exact hE _ _ trivial
  obtain ⟨e,he⟩:=Q23 hlt;obtain ⟨f0,f1,f2⟩:=vt_f he;by_cases k1:e.kind=1
  rotate_left
  ·push_cast -implicitDefEqProofs[hρ,f0,k1];exact hN (i+1) _ _ ⟨by push_cast -implicitDefEqProofs[hρ],by omega⟩ ka
  obtain ⟨o1,o2,o3⟩:=okC_of (okG_at h he k1);have hb:=nsL_b (l.take i) e.loop;have hli:(l.take i).length=i:=by rw[List.length_take];omega
  have w1:IntKind.i64.wrap (e.iter - 1)=e.iter - 1:=Q22 ka ka;have w2:IntKind.i64.wrap (e.iter - T)=e.iter - T:=Q22 ka ka;push_cast -implicitDefEqProofs[hρ,f0,k1,f2]
  refine ZE (α:=Nat) (I:=fun k ε σ=>(ε 0=.sl l.length (l.flatMap aVt) t∧ε 1=.v (.int .i64 T)∧ε 5=.v (.int .i64 i)∧ε 6=.v (.bool (lfE (l.take k) e))∧ε 7=.v (.bool (ffE T (l.take k) e))∧ε 8=.v (.int .i64 (nsL (l.take k) e.loop))∧ε 9=.v (.int .i64 k))∧k≤i)
   (μ:=fun k=>i - k) (Q:=fun ε σ=>ε 0=.sl l.length (l.flatMap aVt) t∧ε 1=.v (.int .i64 T)∧ε 5=.v (.int .i64 i)∧ε 6=.v (.bool (lfE (l.take i) e))∧ε 7=.v (.bool (ffE T (l.take i) e))∧ε 8=.v (.int .i64 (nsL (l.take i) e.loop))) (x:=0) ?_ ?_ ?_
  ·have e0:lfE [] e=decide (e.iter=0):=by unfold lfE pasL;simp
   have e1:ffE T [] e=decide (e.iter < T):=by unfold ffE finL;simp
   have e2:nsL [] e.loop=0:=rfl;push_cast -implicitDefEqProofs[hρ,e0,e1,e2]
   first|omega|trivial
  ·clear hρ ε;rintro k ε σ N' E' ⟨hρ,hk⟩ hN' hE';by_cases hkt:k < i
   rotate_left
   ·push_cast -implicitDefEqProofs[hρ];refine hE' _ _ ?_;have:k=i:=by omega
    subst this;push_cast -implicitDefEqProofs[hρ]
   obtain ⟨g,hg⟩:=Q23 (show k < l.length by omega);obtain ⟨g0,g1,g2⟩:=vt_f hg;by_cases hc:g.loop=e.loop
   rotate_left
   ·have hs1:=lfE_n (l:=l.take k) hc;have hs2:=ffE_n (T:=T) (l:=l.take k) hc;have hs3:=nsL_s (l:=l.take k) (g:=g) e.loop;rw[if_neg (fun x=>hc x.2)] at hs3;rw[←Qp hg] at hs1 hs2 hs3;push_cast -implicitDefEqProofs[hρ,f1,g1,hc];exact hN' (k+1) _ _ ⟨by rw[hs1,hs2,hs3];push_cast -implicitDefEqProofs[hρ],by omega⟩ ka
   have hs1:=lfE_s (l:=l.take k) hc;have hs2:=ffE_s (T:=T) (l:=l.take k) hc;have hs3:=nsL_s (l:=l.take k) (g:=g) e.loop;rw[←Qp hg] at hs1 hs2 hs3;have hb2:=nsL_b (l.take k) e.loop;have hlk:(l.take k).length=k:=by rw[List.length_take];omega
   have w3:IntKind.i64.wrap (nsL (l.take k) e.loop+1)=nsL (l.take k) e.loop+1:=Q22 ka ka;refine Qc (fun ε σ=>(ε 0=.sl l.length (l.flatMap aVt) t∧ε 1=.v (.int .i64 T)∧ε 5=.v (.int .i64 i)∧ε 6=.v (.bool (lfE (l.take k) e))∧ε 7=.v (.bool (ffE T (l.take k) e))∧ε 8=.v (.int .i64 (nsL (l.take k) e.loop))∧ε 9=.v (.int .i64 k))) ?_ ?_
   ·intro N X R hN;push_cast -implicitDefEqProofs[hρ];refine hN _ _ ?_;push_cast -implicitDefEqProofs[hρ]
   clear hρ ε σ;rintro ε σ hρ;rw[wpA_seq,wpA_block];refine Qc (fun ε σ=>(ε 0=.sl l.length (l.flatMap aVt) t∧ε 1=.v (.int .i64 T)∧ε 5=.v (.int .i64 i)∧ε 6=.v (.bool (lfE (l.take k) e))∧ε 7=.v (.bool (ffE T (l.take k) e))∧ε 8=.v (.int .i64 (nsL (l.take k) e.loop))∧ε 9=.v (.int .i64 k))) ?_ ?_
   ·intro N X R hN;push_cast -implicitDefEqProofs[hρ,f1,g1,hc];refine hN _ _ ?_;push_cast -implicitDefEqProofs[hρ]
   clear hρ ε σ;rintro ε σ hρ;refine Qc (fun ε σ=>(ε 0=.sl l.length (l.flatMap aVt) t∧ε 1=.v (.int .i64 T)∧ε 5=.v (.int .i64 i)∧ε 6=.v (.bool (lfE (l.take k) e))∧ε 7=.v (.bool (ffE T (l.take k) e))∧ε 8=.v (.int .i64 (nsL (l.take (k+1)) e.loop))∧ε 9=.v (.int .i64 k))) ?_ ?_
   ·intro N X R hN;by_cases k':g.kind=1
    ·rw[if_pos ⟨k',hc⟩] at hs3;push_cast -implicitDefEqProofs[hρ,g0,k',w3];refine hN _ _ ?_;rw[hs3];push_cast -implicitDefEqProofs[hρ]
    ·rw[if_neg (fun x=>k' x.1)] at hs3;push_cast -implicitDefEqProofs[hρ,g0,k'];refine hN _ _ ?_;rw[hs3];push_cast -implicitDefEqProofs[hρ]
   clear hρ ε σ;rintro ε σ hρ;refine Qc (fun ε σ=>(ε 0=.sl l.length (l.flatMap aVt) t∧ε 1=.v (.int .i64 T)∧ε 5=.v (.int .i64 i)∧ε 6=.v (.bool (lfE (l.take (k+1)) e))∧ε 7=.v (.bool (ffE T (l.take k) e))∧ε 8=.v (.int .i64 (nsL (l.take (k+1)) e.loop))∧ε 9=.v (.int .i64 k))) ?_ ?_
   ·intro N X R hN;generalize lfE (l.take k) e=L at hρ hs1
    cases L with
    | true=>rw[Bool.true_or] at hs1;push_cast -implicitDefEqProofs[hρ];refine hN _ _ ?_;rw[hs1];push_cast -implicitDefEqProofs[hρ]
    | false=>
     rw[Bool.false_or] at hs1;by_cases a1:g.iter=e.iter - 1
     ·rcases (by omega:g.kind=3∨g.kind=6∨g.kind=4∨(g.kind≠3∧g.kind≠6∧g.kind≠4)) with k'|k'|k'|k'
      ·rw[decide_eq_true ⟨.inl k',a1⟩] at hs1;push_cast -implicitDefEqProofs[hρ,f2,g0,g2,k',w1,a1];refine hN _ _ ?_;rw[hs1];push_cast -implicitDefEqProofs[hρ]
      ·rw[decide_eq_true ⟨.inr (.inl k'),a1⟩] at hs1;push_cast -implicitDefEqProofs[hρ,f2,g0,g2,k',w1,a1];refine hN _ _ ?_;rw[hs1];push_cast -implicitDefEqProofs[hρ]
      ·rw[decide_eq_true ⟨.inr (.inr k'),a1⟩] at hs1;push_cast -implicitDefEqProofs[hρ,f2,g0,g2,k',w1,a1];refine hN _ _ ?_;rw[hs1];push_cast -implicitDefEqProofs[hρ]
      ·rw[decide_eq_false (fun x=>by have:=x.1;omega)] at hs1;push_cast -implicitDefEqProofs[hρ,f2,g0,g2,k',w1,a1];refine hN _ _ ?_;rw[hs1];push_cast -implicitDefEqProofs[hρ]
     ·rw[decide_eq_false (fun x=>a1 x.2)] at hs1;push_cast -implicitDefEqProofs[hρ,f2,g0,g2,w1,a1];refine hN _ _ ?_;rw[hs1];push_cast -implicitDefEqProofs[hρ]
   clear hρ ε σ;rintro ε σ hρ;generalize ffE T (l.take k) e=F at hρ hs2
   cases F with
   | true=>rw[Bool.true_or] at hs2;push_cast -implicitDefEqProofs[hρ];exact hN' (k+1) _ _ ⟨by rw[hs2];push_cast -implicitDefEqProofs[hρ],by omega⟩ ka
   | false=>
    rw[Bool.false_or] at hs2;by_cases a2:g.iter=e.iter - T
    ·by_cases k':g.kind=4
     ·rw[decide_eq_true ⟨k',a2⟩] at hs2;push_cast -implicitDefEqProofs[hρ,f2,g0,g2,k',w2,a2];exact hN' (k+1) _ _ ⟨by rw[hs2];push_cast -implicitDefEqProofs[hρ],by omega⟩ ka
     ·rw[decide_eq_false (fun x=>k' x.1)] at hs2;push_cast -implicitDefEqProofs[hρ,f2,g0,g2,k',w2,a2];exact hN' (k+1) _ _ ⟨by rw[hs2];push_cast -implicitDefEqProofs[hρ],by omega⟩ ka
    ·rw[decide_eq_false (fun x=>a2 x.2)] at hs2;push_cast -implicitDefEqProofs[hρ,f2,g0,g2,w2,a2];exact hN' (k+1) _ _ ⟨by rw[hs2];push_cast -implicitDefEqProofs[hρ],by omega⟩ ka
  ·clear hρ ε;rintro ε σ hρ
   have q1:lfE (l.take i) e=true:=by
    unfold lfE;rcases o2 with o|o
    ·simp[o]
    ·simp[o]
   have q2:ffE T (l.take i) e=true:=by
    unfold ffE;rcases o3 with o|o
    ·simp[o]
    ·simp[o]
   rw[q1,q2,o1] at hρ;push_cast -implicitDefEqProofs[hρ,f2];exact hN (i+1) _ _ ⟨by push_cast -implicitDefEqProofs[hρ],by omega⟩ ka
 ·intro ε σ _;push_cast -implicitDefEqProofs;exact oo
end Go.Proofs.YtelibaobkcokdaaGreat.Mx
namespace Go.Proofs.YtelibaobkcokdaaGreat.Mx
set_option linter.unusedVariables false
set_option linter.unusedSimpArgs false
open Go Go.Kx Go.Proofs Go.Proofs.YtelibaobkcokdaaGreat
set_option maxRecDepth 8000
theorem w64_sm {n:Int} (h0:-1000000000≤n) (h1:n≤1000000000):IntKind.i64.wrap n=n:=Q22 ka ka
set_option maxHeartbeats 4000000 in
theorem Y28 (l:List Vt) (hl:l.length≤1000000):FnP Tryz.prog 24 [aVts l] fun a=>a=aInt (mostF l):=by
 refine Qj Q69.2 mixed rfl (by simp[AV.pureL,AV.pure,Y12]) ?_;simp only[Q69,qH];push_cast -implicitDefEqProofs (disch:=omega)[aVts];refine wpa_mkm ?_;push_cast -implicitDefEqProofs (disch:=omega)
 refine ZE (α:=Nat) (I:=fun k ε σ=>(ε 3=.v (.int .i64 (mostAt l k))∧ε 4=.mp 0∧ε 8=.sl l.length (l.flatMap aVt) .none∧ε 9=.v (.int .i64 l.length)∧ε 10=.v (.int .i64 k))∧k≤l.length∧∃A,σ[0]?=some (.map (esI A))∧∀p,getI A p=actv (l.take k) p)
  (μ:=fun k=>l.length - k) (Q:=fun ε σ=>ε 3=.v (.int .i64 (mostF l))) (x:=0) ?_ ?_ ?_
 ·have e0:mostAt l 0=0:=rfl;push_cast -implicitDefEqProofs (disch:=omega)[e0];refine ⟨by omega,[],rfl,fun p=>rfl⟩
 ·rintro k ε σ N E ⟨hρ,hk,A,hA,hp⟩ hN hE;by_cases hlt:k < l.length
  ·obtain ⟨e,he⟩:=Q23 hlt;have hd:=QQ YX he;have hset:setAtA [AV.v (.int .i64 0),AV.v (.int .i64 0),AV.v (.int .i64 0),AV.v (.int .i64 0)] 0 (aVt e)=aVt e:=rfl;have g1:(aVt e)[1]?=some (.v (.int .i64 e.loop)):=rfl;have c4:cellsA (some 4) (aVt e)=some (.agg (aVt e)):=rfl;have x4:(AV.agg (aVt e)).exact=true:=rfl;have hs:=X39 (l.take k) e;rw[←Qp he] at hs;have hb:=actv_b (l.take k) e.loop;have hlk:(l.take k).length=k:=by rw[List.length_take];omega
   have hm:=moreI_b e.kind;have hw:=w64_sm (n:=actv (l.take k) e.loop+moreI e.kind) ka ka;have hlp:lpAt l k=e.loop:=by unfold lpAt;rw[he]
   have hat:mostAt l (k+1)=max (mostAt l k) (actv (l.take (k+1)) e.loop):=by rw[←hlp];rfl
   have hsl:=hs e.loop;rw[if_pos rfl] at hsl;have hmb:=mostAt_b l k;have hgm:=getM_I A e.loop;rw[hp] at hgm;have hpu:=putM_I A e.loop (actv (l.take k) e.loop+moreI e.kind);have hgm2:=getM_I (putI A e.loop (actv (l.take k) e.loop+moreI e.kind)) e.loop;rw[X40,if_pos rfl] at hgm2
   have hp2:∀p,getI (putI A e.loop (actv (l.take k) e.loop+moreI e.kind)) p=actv (l.take (k+1)) p:=by
    intro p;rw[X40,hs p];by_cases c:p=e.loop
    ·subst c;simp
    ·rw[if_neg c,if_neg (fun e=>c e.symm),hp]
   have hA1:(σ++[Res.obj 0 (aVt e)])[0]?=some (.map (esI A)):=Qn hA;have hb1:(σ++[Res.obj 0 (aVt e)])[σ.length]?=some (.obj 0 (aVt e)):=Qe _ _;have hpos:=Qh hA;push_cast -implicitDefEqProofs (disch:=omega)[hρ,hd,c4v];refine Qm ?_;push_cast -implicitDefEqProofs (disch:=omega);refine Qd (cs:=[AV.v (.int .i64 0),AV.v (.int .i64 0),AV.v (.int .i64 0),AV.v (.int .i64 0)]) rfl rfl (Qe _ _) ke ?_;rw[hset,Qu];generalize hS:σ++[Res.obj 0 (aVt e)]=S at hA1 hb1 ⊢;generalize hb:σ.length=i0 at hb1 hpos ⊢;clear hS hb;have hb2:∀r,(S.set 0 r)[i0]?=some (.obj 0 (aVt e)):=fun r=>Qa ka hb1;have hA2:∀r,(S.set 0 r)[0]?=some r:=fun r=>Qb hA1;have fin:∀ε':AEnv,((ε' 3=.v (.int .i64 (mostAt l (k+1)))∧ε' 4=.mp 0∧ε' 8=.sl l.length (l.flatMap aVt) .none∧ε' 9=.v (.int .i64 l.length)∧ε' 10=.v (.int .i64 ((k+1:Nat):Int))))→Go.Kx.act (N ε' (S.set 0 (.map (esI (putI A e.loop (actv (l.take k) e.loop+moreI e.kind)))))):=fun ε' h=>hN (k+1) _ _ ⟨h,by omega,_,hA2 _,hp2⟩ ka;have hmx:max (mostAt l k) (actv (l.take k) e.loop+moreI e.kind)=mostAt l (k+1):=by rw[hat,hsl]
   push_cast -implicitDefEqProofs (disch:=omega)[hρ,hb1,g1,c4,x4];refine both2 ?_ ?_
   ·refine Xm hA1 hgm ?_;push_cast -implicitDefEqProofs (disch:=omega)[hb1,c4,x4];refine Q5 (Q70 e) ?_;push_cast -implicitDefEqProofs (disch:=omega)[aInt,hw];refine Y70 hA1 hpu ?_;push_cast -implicitDefEqProofs (disch:=omega)[hρ,hb2,g1];refine Xm (hA2 _) hgm2 ?_;push_cast -implicitDefEqProofs (disch:=omega)[hmx,hρ];refine fin _ ?_;push_cast -implicitDefEqProofs (disch:=omega)[hρ]
   ·refine Q5 (Q70 e) ?_;push_cast -implicitDefEqProofs (disch:=omega)[aInt,hb1,g1];refine Xm hA1 hgm ?_;push_cast -implicitDefEqProofs (disch:=omega)[hw];refine Y70 hA1 hpu ?_;push_cast -implicitDefEqProofs (disch:=omega)[hρ,hb2,g1];refine Xm (hA2 _) hgm2 ?_;push_cast -implicitDefEqProofs (disch:=omega)[hmx,hρ];refine fin _ ?_;push_cast -implicitDefEqProofs (disch:=omega)[hρ]
  ·push_cast -implicitDefEqProofs (disch:=omega)[hρ];refine hE _ _ ?_;obtain rfl:k=l.length:=by omega
   push_cast -implicitDefEqProofs (disch:=omega)[hρ];rfl
 ·intro ε σ hρ;push_cast -implicitDefEqProofs (disch:=omega)[hρ];exact oo
end Go.Proofs.YtelibaobkcokdaaGreat.Mx
