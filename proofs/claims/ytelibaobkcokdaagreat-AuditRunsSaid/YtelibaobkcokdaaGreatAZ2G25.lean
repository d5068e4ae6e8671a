/- The machine: how a run came out. -/
import Derived.Test.YtelibaobkcokdaaGreatAZ2G24
import Derived.Test.YtelibaobkcokdaaGreatProg
import Derived.KernelRfl
namespace Go.Proofs.YtelibaobkcokdaaGreat.Mx
set_option linter.unusedSectionVars false
set_option linter.unusedVariables false
set_option linter.unusedSimpArgs false
open Go Go.Kx Go.Proofs Go.Proofs.YtelibaobkcokdaaGreat
set_option maxRecDepth 8000
def TkOk (d:List Int) (t:Tok):Prop:=(t=.nil∧d=[])∨∃i v,t=.id i v 1
theorem Clone_ms_k {i w:Nat} {σ:Kx.St} {d:List Int} (hd:d.length≤1000000) (hi:σ[i]?=some (.obj w (d.map aInt))):FnG Tryz.prog 89 [.ms i w 0 d.length 1] σ fun a σ'=>(∃t,a=.sl d.length (d.map aInt) t∧TkOk d t)∧∃τ,σ'=σ++τ:=by
 refine Q3 QM.2 mixed rfl ?_;simp only[QM,qH]
 have hsrc:srcA σ 1 (.ms i w 0 d.length 1)=some (d.length,d.map aInt):=by
  simp[srcA,hi,subA]
  try rw[List.take_of_length_le ki]
 have h1:(d.map aInt).all AV.one=true:=by rw[List.all_map];exact List.all_eq_true.2 fun x _=>rfl
 push_cast -implicitDefEqProofs;refine Qp (sz:=1) ki ki ?_;push_cast -implicitDefEqProofs;refine X79 (n:=0) (cs:=[]) (m:=d.length) rfl hsrc ki h1 rfl ke ke ?_;push_cast -implicitDefEqProofs[List.nil_append];exact ⟨⟨_,rfl,.inr ⟨_,_,rfl⟩⟩,_,rfl⟩
theorem Clone_sl_k {σ:Kx.St} {d:List Int} {t:Tok} (hd:d.length≤1000000) (ht:t=.nil↔d=[]):FnG Tryz.prog 89 [.sl d.length (d.map aInt) t] σ fun a σ'=>(∃t,a=.sl d.length (d.map aInt) t∧TkOk d t)∧∃τ,σ'=σ++τ:=by
 refine Q3 QM.2 mixed rfl ?_;simp only[QM,qH];by_cases c:d=[]
 ·rw[ht.2 c,c];have hn:PF.av (.eqn false 1) [.sl 0 [] .nil]=some (.v (.bool true)):=rfl;push_cast -implicitDefEqProofs[List.length_nil,List.map_nil,hn];exact ⟨⟨_,rfl,.inl ⟨rfl,rfl⟩⟩,[],by simp⟩
 ·have hl:0 < d.length:=List.length_pos_iff.2 c
  have hn:PF.av (.eqn false 1) [.sl d.length (d.map aInt) t]=some (.v (.bool false)):=by
   have hl0:d.length≠0:=by omega
   have htn:t≠.nil:=fun e=>c (ht.1 e);cases t<;>first|exact absurd rfl htn|(simp[PF.av,c];done)|(simp[PF.av,hl0];done)|(simp[PF.av];done)
  have h1:(d.map aInt).all AV.one=true:=by rw[List.all_map];exact List.all_eq_true.2 fun x _=>rfl
  push_cast -implicitDefEqProofs[hn];refine Qp (sz:=1) ki ki ?_;push_cast -implicitDefEqProofs;refine X79 (n:=0) (cs:=[]) (m:=d.length) rfl rfl ki h1 rfl ke ke ?_;push_cast -implicitDefEqProofs[List.nil_append];exact ⟨⟨_,rfl,.inr ⟨_,_,rfl⟩⟩,_,rfl⟩
section
variable {q:Pm} {pl:Pl} {σ:Kx.St} {L:List Wk} {s:Cs}
theorem X72 (h:MM q pl σ L s):FnG Tryz.prog 48 [.ref (pl.p .so) 0 0] σ fun a σ'=>(∃t,a=.sl s.out.length (s.out.map aInt) t∧TkOk s.out t)∧∃τ,σ'=σ++τ:=by
 refine Q3 XE.2 mixed rfl ?_;simp only[XE,qH];have hso:=h.at_ .so _ rfl;have ho:=h.sd.o0;have hl:=h.sd.ol;push_cast -implicitDefEqProofs[hso];refine Q0 (Clone_sl_k ke ?_) ?_
 ·cases hv:pl.ov with
  | none=>simp only[tokT,true_iff];exact ho.1 hv
  | some v=>
   simp only[tokT];constructor
   ·intro e;cases e
   ·intro e;have:=ho.2 e;rw[hv] at this;cases this
 rintro a σ' ⟨⟨t,rfl,k⟩,hs⟩;push_cast -implicitDefEqProofs;exact ⟨⟨_,rfl,k⟩,hs⟩
theorem ZZ (h:MM q pl σ L s):FnG Tryz.prog 62 [.ref (pl.p .sd) 0 0] σ fun a σ'=>(∃t,a=.sl s.data.length (s.data.map aInt) t∧TkOk s.data t)∧∃τ,σ'=σ++τ:=by refine Q3 Z60.2 mixed rfl ?_;simp only[Z60,qH];have hst:=h.datas.st;have hl:=h.sd.dt;push_cast -implicitDefEqProofs[hst];refine Q0 (Clone_ms_k ke h.datas.wd) ?_;rintro a σ' ⟨⟨t,rfl,k⟩,hs⟩;push_cast -implicitDefEqProofs;exact ⟨⟨_,rfl,k⟩,hs⟩
end
theorem Qz {P:Program} {f:FuncId} {xs:List AV} {σ:Kx.St} {v:AV} {K:AV→Kx.St→Prop} (H:FnG P f xs σ fun a σ'=>a=v∧σ'=σ) (hk:act (K v σ)):act (EF.awp P (.call f) xs σ K):=by refine Q0 H ?_;rintro a s ⟨rfl,hs⟩;rw[hs];exact hk
theorem MaM.app {jm:Nat} {q:Pm} {pl:Pl} {σ:Kx.St} {m:Mc} (h:MaM jm q pl σ m) (τ:Kx.St):MaM jm q pl (σ++τ) m:=h.of (h.mm.app _) (Ext.app ..) rfl
def Mc.state (m:Mc):Int:=if m.c.status=0∧m.ended=true then 6 else m.c.status
def aRg (st:Int) (c:Cs) (pk:Int) (o d:AV):List AV:=[.v (.int .i64 st),.v (.int .i64 c.why),o,d,.v (.int .i64 c.steps),.v (.int .i64 c.probes),.v (.int .i64 c.steals),.v (.int .i64 c.parks),.v (.int .i64 c.naps),.v (.int .i64 c.folds),.v (.int .i64 pk)]
def aRs (st:Int) (c:Cs) (pk:Int):List AV:=aRg st c pk (aInts c.out) (aInts c.data)
theorem aRs_low (st:Int) (c:Cs) (pk:Int) (n:Nat):(AV.agg (aRs st c pk)).low n=true:=by have h1:∀l:List Int,AV.lowL n (l.map aInt)=true:=fun l=>low_ints n l;simp[aRs,aRg,AV.low,AV.lowL,aInts,aSl,h1]
abbrev zR:List AV:=[AV.v (.int .i64 0),AV.v (.int .i64 0),AV.sl 0 [] .nil,AV.sl 0 [] .nil,AV.v (.int .i64 0),AV.v (.int .i64 0),AV.v (.int .i64 0),AV.v (.int .i64 0),AV.v (.int .i64 0),AV.v (.int .i64 0),AV.v (.int .i64 0)]
theorem app3 {τ ρ:Kx.St} {j:Nat} {x:Res} (h:τ.length≤j):∃ρ',(τ++ρ).set j x=τ++ρ':=⟨ρ.set (j - τ.length) x,List.set_append_right _ _ h⟩
set_option maxHeartbeats 4000000 in
theorem Yl {jm:Nat} {q:Pm} {pl:Pl} {σ:Kx.St} {m:Mc} (h:MaM jm q pl σ m):FnG Tryz.prog 25 [.ref jm 0 0] σ fun a σ'=>(∃t1 t2,a=.agg (aRg m.state m.c m.c.peak (.sl m.c.out.length (m.c.out.map aInt) t1) (.sl m.c.data.length (m.c.data.map aInt) t2))∧TkOk m.c.out t1∧TkOk m.c.data t2)∧∃τ,σ'=σ++τ:=by
 refine Q3 Q36.2 mixed rfl ?_;simp only[Q36,qH];have hz:∀l:List AV,l.length=11→setAtA zR 0 l=l:=fun l hl=>Q31 (by rw[hl];rfl);refine Qb (fun ε σ'=>(ε 0=.ref jm 0 0∧ε 2=.ref σ.length 0 0)∧σ'=σ++[.obj 0 zR]) ?_ ?_
 ·intro N X R hN;push_cast -implicitDefEqProofs;refine Ql ?_;push_cast -implicitDefEqProofs;exact hN _ _ ⟨by push_cast -implicitDefEqProofs,rfl⟩
 rintro ε σ' ⟨hρ,rfl⟩;have hA:=h.app [.obj 0 zR];have hat:(σ++[Res.obj 0 zR])[σ.length]?=some (.obj 0 zR):=Qe _ _;have hlen:σ.length < (σ++[Res.obj 0 zR]).length:=Qh hat
 obtain ⟨τ,eτ⟩:∃τ,τ=σ++[Res.obj 0 zR]:=⟨_,rfl⟩;rw[←eτ] at hA hat hlen ⊢;obtain ⟨t,ht⟩:=hA.mo;have ht':∀ρ:Kx.St,(τ++ρ)[jm]?=_:=fun ρ=>Qn ht;have hM:∀ρ:Kx.St,MM q pl (τ++ρ) m.l m.c:=fun ρ=>hA.mm.app ρ;have hc':∀ρ:Kx.St,(τ++ρ)[pl.p .c]?=_:=fun ρ=>(hM ρ).c;have hc:=hA.mm.c;have c7:cellsA (some 7) ((aCore q pl m.c).drop 13)=some (.agg [.v (.int .i64 m.c.steps),.v (.int .i64 m.c.probes),.v (.int .i64 m.c.steals),.v (.int .i64 m.c.parks),.v (.int .i64 m.c.naps),.v (.int .i64 m.c.folds),.v (.int .i64 0)]):=rfl;have x7:(AV.agg [.v (.int .i64 m.c.steps),.v (.int .i64 m.c.probes),.v (.int .i64 m.c.steals),.v (.int .i64 m.c.parks),.v (.int .i64 m.c.naps),.v (.int .i64 m.c.folds),.v (.int .i64 0)]).exact=true:=rfl;have hb:∀st n1 c1 t1 n2 c2 t2,fillA zR [(0,1),(1,1),(2,1),(3,1),(4,7)] [.v (.int .i64 st),.v (.int .i64 m.c.why),.sl n1 c1 t1,.sl n2 c2 t2,.agg [.v (.int .i64 m.c.steps),.v (.int .i64 m.c.probes),.v (.int .i64 m.c.steals),.v (.int .i64 m.c.parks),.v (.int .i64 m.c.naps),.v (.int .i64 m.c.folds),.v (.int .i64 0)]]=some (aRg st m.c 0 (.sl n1 c1 t1) (.sl n2 c2 t2)):=fun _ _ _ _ _ _ _=>rfl;have one:∀st pk n1 c1 t1 n2 c2 t2,(aRg st m.c pk (.sl n1 c1 t1) (.sl n2 c2 t2)).all AV.one=true:=fun _ _ _ _ _ _ _ _=>rfl;refine Qv (fun ε σ'=>(ε 0=.ref jm 0 0∧ε 2=.ref σ.length 0 0)∧σ'=τ) ?_ ?_
 ·intro N hN;push_cast -implicitDefEqProofs[hρ];exact hN _ _ ⟨by push_cast -implicitDefEqProofs[hρ],rfl⟩
 clear hρ ε;rintro ε σ' ⟨hρ,e⟩;rw[e];clear e σ';refine Qb (fun ε σ'=>(ε 0=.ref jm 0 0∧ε 2=.ref σ.length 0 0∧ε 3=.v (.int .i64 m.c.status)∧ε 4=.v (.int .i64 m.c.why))∧σ'=τ) ?_ ?_
 ·intro N X R hN;push_cast -implicitDefEqProofs[hρ,ht];refine Qz (Z97 hA.mm) ?_;push_cast -implicitDefEqProofs[hρ,aInt];exact hN _ _ ⟨by push_cast -implicitDefEqProofs[hρ],rfl⟩
 clear hρ ε;rintro ε σ' ⟨hρ,e⟩;rw[e];clear e σ';refine Qv (fun ε σ'=>(ε 0=.ref jm 0 0∧ε 2=.ref σ.length 0 0∧ε 3=.v (.int .i64 m.state)∧ε 4=.v (.int .i64 m.c.why))∧σ'=τ) ?_ ?_
 ·intro N hN;by_cases c:m.c.status=0
  ·push_cast -implicitDefEqProofs[hρ,c];refine Qz (Q47 hA) ?_
   cases ce:m.ended with
   | true=>have e:m.state=6:=if_pos ⟨c,ce⟩;push_cast -implicitDefEqProofs[hρ,aBool];exact hN _ _ ⟨by push_cast -implicitDefEqProofs[hρ,e],rfl⟩
   | false=>
    have e:m.state=0:=by unfold Mc.state;rw[if_neg (by rw[ce];simp)];exact c
    push_cast -implicitDefEqProofs[hρ,aBool];exact hN _ _ ⟨by push_cast -implicitDefEqProofs[hρ,e,c],rfl⟩
  ·have e:m.state=m.c.status:=if_neg fun x=>c x.1;push_cast -implicitDefEqProofs[hρ,c];exact hN _ _ ⟨by push_cast -implicitDefEqProofs[hρ,e],rfl⟩
 clear hρ ε;rintro ε σ' ⟨hρ,e⟩;rw[e];clear e σ';refine Qb (fun ε σ'=>∃j ρ t1 t2,(ε 0=.ref jm 0 0∧ε 2=.ref σ.length 0 0∧ε 5=.ref j 0 0)∧σ'=τ++ρ∧(τ++ρ)[j]?=some (.obj 0 (aRg m.state m.c 0 (.sl m.c.out.length (m.c.out.map aInt) t1) (.sl m.c.data.length (m.c.data.map aInt) t2)))∧τ.length≤j∧TkOk m.c.out t1∧TkOk m.c.data t2) ?_ ?_
 ·intro N X R hN;push_cast -implicitDefEqProofs[hρ,ht,ht',hc,hc',c7,x7,hb]
  have fin:∀(ε':AEnv) (S:Kx.St) (j:Nat) (ρ:Kx.St) (t1 t2:Tok),S=τ++ρ→S[j]?=some (.obj 0 zR)→τ.length≤j→TkOk m.c.out t1→TkOk m.c.data t2→(ε' 0=.ref jm 0 0∧ε' 2=.ref σ.length 0 0∧ε' 5=.ref j 0 0) →
    act (N ε' (S.set j (.obj 0 (aRg m.state m.c 0 (.sl m.c.out.length (m.c.out.map aInt) t1) (.sl m.c.data.length (m.c.data.map aInt) t2))))):=by
   intro ε' S j ρ t1 t2 e hj hl k1 k2 he;subst e;obtain ⟨ρ',e'⟩:=app3 (τ:=τ) (ρ:=ρ) (x:=Res.obj 0 (aRg m.state m.c 0 (.sl m.c.out.length (m.c.out.map aInt) t1) (.sl m.c.data.length (m.c.data.map aInt) t2))) hl;refine hN _ _ ⟨j,ρ',t1,t2,he,e',?_,hl,k1,k2⟩;rw[←e'];exact Qc hj
  refine both2 ?_ ?_
  ·refine Qz (X67 hA.mm) ?_;push_cast -implicitDefEqProofs[hρ,ht,ht',hc,hc',c7,x7,hb,List.append_assoc];refine both2 ?_ ?_
   ·refine Q0 (X72 hA.mm) ?_;rintro a σ' ⟨⟨t1,rfl,k1⟩,ρ1,hs⟩;rw[hs];clear hs;push_cast -implicitDefEqProofs[hρ,ht,ht',hc,hc',c7,x7,hb,List.append_assoc];refine both2 ?_ ?_
    ·refine Qz (Q18 (hM _)) ?_;push_cast -implicitDefEqProofs[hρ,ht,ht',hc,hc',c7,x7,hb,List.append_assoc];refine both2 ?_ ?_
     ·refine Q0 (ZZ (hM _)) ?_;rintro a σ' ⟨⟨t2,rfl,k2⟩,ρ2,hs⟩;rw[hs,List.append_assoc];clear hs;push_cast -implicitDefEqProofs[hρ,ht,ht',hc,hc',c7,x7,hb,List.append_assoc];refine both2 ?_ ?_
      ·refine Qz (Q07 (hM _)) ?_;push_cast -implicitDefEqProofs[hρ,ht,ht',hc,hc',c7,x7,hb,List.append_assoc];refine Ql ?_;push_cast -implicitDefEqProofs[hρ,ht,ht',hc,hc',c7,x7,hb,List.append_assoc];refine Qd (cs:=zR) rfl (one _ _ _ _ _ _ _ _) ki (Nat.le_refl 11) ?_;rw[hz _ rfl];push_cast -implicitDefEqProofs[hρ,List.append_assoc];exact fin _ _ _ _ t1 t2 rfl ki ki k1 k2 oG
      ·refine Ql ?_;push_cast -implicitDefEqProofs[hρ,ht,ht',hc,hc',c7,x7,hb,List.append_assoc];refine Qz (Q07 (hM _)) ?_;push_cast -implicitDefEqProofs[hρ,ht,ht',hc,hc',c7,x7,hb,List.append_assoc];refine Qd (cs:=zR) rfl (one _ _ _ _ _ _ _ _) ki (Nat.le_refl 11) ?_;rw[hz _ rfl];push_cast -implicitDefEqProofs[hρ,List.append_assoc];exact fin _ _ _ _ t1 t2 rfl ki ki k1 k2 oG
     ·refine Ql ?_;push_cast -implicitDefEqProofs[hρ,ht,ht',hc,hc',c7,x7,hb,List.append_assoc];refine Q0 (ZZ (hM _)) ?_;rintro a σ' ⟨⟨t2,rfl,k2⟩,ρ2,hs⟩;rw[hs,List.append_assoc];clear hs;push_cast -implicitDefEqProofs[hρ,ht,ht',hc,hc',c7,x7,hb,List.append_assoc];refine Qz (Q07 (hM _)) ?_;push_cast -implicitDefEqProofs[hρ,ht,ht',hc,hc',c7,x7,hb,List.append_assoc];refine Qd (cs:=zR) rfl (one _ _ _ _ _ _ _ _) ki (Nat.le_refl 11) ?_;rw[hz _ rfl];push_cast -implicitDefEqProofs[hρ,List.append_assoc];exact fin _ _ _ _ t1 t2 rfl ki ki k1 k2 oG
    ·refine Ql ?_;push_cast -implicitDefEqProofs[hρ,ht,ht',hc,hc',c7,x7,hb,List.append_assoc];refine Qz (Q18 (hM _)) ?_;push_cast -implicitDefEqProofs[hρ,ht,ht',hc,hc',c7,x7,hb,List.append_assoc];refine Q0 (ZZ (hM _)) ?_;rintro a σ' ⟨⟨t2,rfl,k2⟩,ρ2,hs⟩;rw[hs,List.append_assoc];clear hs;push_cast -implicitDefEqProofs[hρ,ht,ht',hc,hc',c7,x7,hb,List.append_assoc];refine Qz (Q07 (hM _)) ?_;push_cast -implicitDefEqProofs[hρ,ht,ht',hc,hc',c7,x7,hb,List.append_assoc];refine Qd (cs:=zR) rfl (one _ _ _ _ _ _ _ _) ki (Nat.le_refl 11) ?_;rw[hz _ rfl];push_cast -implicitDefEqProofs[hρ,List.append_assoc];exact fin _ _ _ _ t1 t2 rfl ki ki k1 k2 oG
   ·refine Ql ?_;push_cast -implicitDefEqProofs[hρ,ht,ht',hc,hc',c7,x7,hb,List.append_assoc];refine Q0 (X72 (hM _)) ?_;rintro a σ' ⟨⟨t1,rfl,k1⟩,ρ1,hs⟩;rw[hs,List.append_assoc];clear hs;push_cast -implicitDefEqProofs[hρ,ht,ht',hc,hc',c7,x7,hb,List.append_assoc];refine Qz (Q18 (hM _)) ?_;push_cast -implicitDefEqProofs[hρ,ht,ht',hc,hc',c7,x7,hb,List.append_assoc];refine Q0 (ZZ (hM _)) ?_;rintro a σ' ⟨⟨t2,rfl,k2⟩,ρ2,hs⟩;rw[hs,List.append_assoc];clear hs;push_cast -implicitDefEqProofs[hρ,ht,ht',hc,hc',c7,x7,hb,List.append_assoc];refine Qz (Q07 (hM _)) ?_;push_cast -implicitDefEqProofs[hρ,ht,ht',hc,hc',c7,x7,hb,List.append_assoc];refine Qd (cs:=zR) rfl (one _ _ _ _ _ _ _ _) ki (Nat.le_refl 11) ?_;rw[hz _ rfl];push_cast -implicitDefEqProofs[hρ,List.append_assoc];exact fin _ _ _ _ t1 t2 rfl ki ki k1 k2 oG
  ·refine Ql ?_;push_cast -implicitDefEqProofs[hρ,ht,ht',hc,hc',c7,x7,hb,List.append_assoc];refine Qz (X67 (hM _)) ?_;push_cast -implicitDefEqProofs[hρ,ht,ht',hc,hc',c7,x7,hb,List.append_assoc];refine Q0 (X72 (hM _)) ?_;rintro a σ' ⟨⟨t1,rfl,k1⟩,ρ1,hs⟩;rw[hs,List.append_assoc];clear hs;push_cast -implicitDefEqProofs[hρ,ht,ht',hc,hc',c7,x7,hb,List.append_assoc];refine Qz (Q18 (hM _)) ?_;push_cast -implicitDefEqProofs[hρ,ht,ht',hc,hc',c7,x7,hb,List.append_assoc];refine Q0 (ZZ (hM _)) ?_;rintro a σ' ⟨⟨t2,rfl,k2⟩,ρ2,hs⟩;rw[hs,List.append_assoc];clear hs;push_cast -implicitDefEqProofs[hρ,ht,ht',hc,hc',c7,x7,hb,List.append_assoc];refine Qz (Q07 (hM _)) ?_;push_cast -implicitDefEqProofs[hρ,ht,ht',hc,hc',c7,x7,hb,List.append_assoc];refine Qd (cs:=zR) rfl (one _ _ _ _ _ _ _ _) ki (Nat.le_refl 11) ?_;rw[hz _ rfl];push_cast -implicitDefEqProofs[hρ,List.append_assoc];exact fin _ _ _ _ t1 t2 rfl ki ki k1 k2 oG
 clear hρ ε;rintro ε σ' ⟨j,ρ,t1,t2,hρ,rfl,hj,hl,k1,k2⟩;have c11:∀pk,cellsA (some 11) (aRg m.state m.c pk (.sl m.c.out.length (m.c.out.map aInt) t1) (.sl m.c.data.length (m.c.data.map aInt) t2))=some (.agg (aRg m.state m.c pk (.sl m.c.out.length (m.c.out.map aInt) t1) (.sl m.c.data.length (m.c.data.map aInt) t2))):=fun _=>rfl;have s10:(aRg m.state m.c 0 (.sl m.c.out.length (m.c.out.map aInt) t1) (.sl m.c.data.length (m.c.data.map aInt) t2)).set (4+6) (.v (.int .i64 m.c.peak))=aRg m.state m.c m.c.peak (.sl m.c.out.length (m.c.out.map aInt) t1) (.sl m.c.data.length (m.c.data.map aInt) t2):=rfl;push_cast -implicitDefEqProofs[hρ,ht'];refine Qz (Q41 (hM ρ)) ?_;push_cast -implicitDefEqProofs[hρ,ht'];refine Qz (frame_Peak_a (hM ρ)) ?_;push_cast -implicitDefEqProofs[hρ,aInt];refine Q8 rfl rfl hj (show 10 < 11 from by omega) ?_;rw[s10];have hg:=Qc (o:=Res.obj 0 (aRg m.state m.c m.c.peak (.sl m.c.out.length (m.c.out.map aInt) t1) (.sl m.c.data.length (m.c.data.map aInt) t2))) hj;obtain ⟨ρ',e'⟩:=app3 (τ:=τ) (ρ:=ρ) (x:=Res.obj 0 (aRg m.state m.c m.c.peak (.sl m.c.out.length (m.c.out.map aInt) t1) (.sl m.c.data.length (m.c.data.map aInt) t2))) hl;rw[e'] at hg ⊢;push_cast -implicitDefEqProofs[hρ,hg,c11];refine Qd (cs:=zR) rfl (one _ _ _ _ _ _ _ _) (Qn hat) (Nat.le_refl 11) ?_;rw[hz _ rfl];have hgo:=Qc (o:=Res.obj 0 (aRg m.state m.c m.c.peak (.sl m.c.out.length (m.c.out.map aInt) t1) (.sl m.c.data.length (m.c.data.map aInt) t2))) (Qn (τ:=ρ') hat);push_cast -implicitDefEqProofs[hρ,hgo,c11];refine ⟨⟨t1,t2,rfl,k1,k2⟩,([Res.obj 0 zR]++ρ').set 0 (.obj 0 (aRg m.state m.c m.c.peak (.sl m.c.out.length (m.c.out.map aInt) t1) (.sl m.c.data.length (m.c.data.map aInt) t2))),?_⟩;rw[eτ,List.append_assoc,List.set_append_right _ _ (Nat.le_refl _),Nat.sub_self]
theorem Ym {jm:Nat} {q:Pm} {pl:Pl} {σ:Kx.St} {m:Mc} (h:MaM jm q pl σ m):FnG Tryz.prog 25 [.ref jm 0 0] σ fun a σ'=>a=.agg (aRs m.state m.c m.c.peak)∧σ'=σ:=by refine FnG.drop0 (fun a ha=>by subst ha;exact aRs_low ..) (FnG.fz ((Yl h).mono ?_));rintro a σ' ⟨⟨t1,t2,rfl,_,_⟩,τ,rfl⟩;refine ⟨[],?_,τ,rfl⟩;have e1:=X59 (f:=aInt) (σ:=Go.Kx.freeze [] (σ++τ)) (Yr _) m.c.out t1;have e2:=X59 (f:=aInt) (σ:=Go.Kx.freeze [] (σ++τ)) (Yr _) m.c.data t2;simp only[aRg,AV.res,AV.resL] at e1 e2 ⊢;rw[e1,e2];rfl
end Go.Proofs.YtelibaobkcokdaaGreat.Mx
namespace Go.Proofs.YtelibaobkcokdaaGreat.Mx
set_option linter.unusedVariables false
set_option linter.unusedSimpArgs false
open Go Go.Kx Go.Proofs Go.Proofs.YtelibaobkcokdaaGreat
set_option maxRecDepth 8000
def aVw (w:Wk):List AV:=[.v (.int .i64 w.state),.v (.int .i64 w.holds),.v (.int .i64 w.tail),.v (.int .i64 w.probed)]
theorem Jn {q:Pm} {pl:Pl} {σ:Kx.St} {L:List Wk} {s:Cs} (h:MM q pl σ L s) {k:Nat} {w:Wk} (hk:L[k]?=some w):FnG Tryz.prog 16 [.ref (pl.p (.wk k)) 0 0] σ fun a σ'=>a=.agg (aVw w)∧σ'=σ:=by
 refine FnG.drop0 (fun a ha=>by subst ha;rfl) ?_;refine Q3 Z1.2 mixed rfl ?_;simp only[Z1,qH];have hw:=h.wk hk;have g1:(aWk pl k w)[1]?=some (.v (.int .i64 w.state)):=rfl;have g2:(aWk pl k w)[2]?=some (.v (.int .i64 w.holds)):=rfl;have g3:(aWk pl k w)[3]?=some (.v (.int .i64 w.tail)):=rfl;have g4:(aWk pl k w)[4]?=some (.v (.int .i64 w.probed)):=rfl;have hw':∀ρ:Kx.St,(σ++ρ)[pl.p (.wk k)]?=_:=fun ρ=>Qn hw;have hz:∀l:List AV,l.length=4→setAtA [AV.v (.int .i64 0),AV.v (.int .i64 0),AV.v (.int .i64 0),AV.v (.int .i64 0)] 0 l=l:=fun l hl=>Q31 (by rw[hl];rfl);have hb:fillA [AV.v (.int .i64 0),AV.v (.int .i64 0),AV.v (.int .i64 0),AV.v (.int .i64 0)] [(0,1),(1,1),(2,1),(3,1)] [.v (.int .i64 w.state),.v (.int .i64 w.holds),.v (.int .i64 w.tail),.v (.int .i64 w.probed)]=some (aVw w):=by simp[fillA,AV.cells,Value.cells,setAtA,aVw]
 have c4:cellsA (some 4) (aVw w)=some (.agg (aVw w)):=rfl;push_cast -implicitDefEqProofs;refine Ql ?_;push_cast -implicitDefEqProofs[hw',g1,g2,g3,g4,hb];refine Qd (cs:=[AV.v (.int .i64 0),AV.v (.int .i64 0),AV.v (.int .i64 0),AV.v (.int .i64 0)]) (l:=aVw w) rfl rfl (Qe _ _) (Nat.le_refl 4) ?_;rw[hz _ rfl,Qr];push_cast -implicitDefEqProofs[Qe,c4];exact ⟨_,rfl⟩
end Go.Proofs.YtelibaobkcokdaaGreat.Mx
namespace Go.Proofs.YtelibaobkcokdaaGreat
open Go Go.Kx Go.Proofs
set_option linter.unusedVariables false
set_option maxRecDepth 100000
set_option maxHeartbeats 16000000
noncomputable def Zn:=qH Tryz.prog 18
noncomputable def Zo:=qH Tryz.prog 55
noncomputable def Zp:=qH Tryz.prog 108
end Go.Proofs.YtelibaobkcokdaaGreat
namespace Go.Proofs.YtelibaobkcokdaaGreat.Mx
set_option linter.unusedVariables false
set_option linter.unusedSimpArgs false
open Go Go.Kx Go.Proofs Go.Proofs.YtelibaobkcokdaaGreat
set_option maxRecDepth 8000
def moreI (k:Int):Int:=if k=1 then 1 else if k=4 then -1 else 0
def actv (l:List Vt) (p:Int):Int:=l.foldl (fun n e=>if e.loop=p then n+moreI e.kind else n) 0
theorem actv_snoc (l:List Vt) (e:Vt) (p:Int):actv (l++[e]) p=if e.loop=p then actv l p+moreI e.kind else actv l p:=by unfold actv;rw[List.foldl_append];rfl
def lpAt (l:List Vt) (i:Nat):Int:=match l[i]? with|some e=>e.loop|none=>0
def mostAt (l:List Vt):Nat→Int
 | 0=>0
 | i+1=>max (mostAt l i) (actv (l.take (i+1)) (lpAt l i))
theorem mostAt_s (l:List Vt) (i:Nat):mostAt l (i+1)=max (mostAt l i) (actv (l.take (i+1)) (lpAt l i)):=rfl
def mostF (l:List Vt):Int:=mostAt l l.length
theorem moreI_b (k:Int):-1≤moreI k∧moreI k≤1:=by
 unfold moreI
 repeat' split
 all_goals omega
theorem actv_b (l:List Vt) (p:Int):-(l.length:Int)≤actv l p∧actv l p≤l.length:=by
 induction l using snoc_ind with
 | h0=>simp[actv]
 | hs l e ih=>rw[actv_snoc];have:=moreI_b e.kind;simp only[List.length_append,List.length_singleton];split<;>omega
theorem mostAt_b (l:List Vt):∀i,0≤mostAt l i∧mostAt l i≤l.length:=by
 intro i
 induction i with
 | zero=>simp[mostAt]
 | succ i ih=>
  have:=actv_b (l.take (i+1)) (lpAt l i);have h2:(l.take (i+1)).length≤l.length:=by rw[List.length_take];omega
  rw[mostAt_s];omega
def UB (l:List Vt) (i k:Nat) (x:Int):Prop:=0≤x∧x≤l.length∧∀y,0≤y→(x≤y↔(∀i',i' < i→∀k',k' < i'→actv (l.take i') (lpAt l k')≤y)∧∀k',k' < k→actv (l.take i) (lpAt l k')≤y)
def active (l:List Vt) (p:Int):Int:=max (actv l p) 0
theorem UB.zero (l:List Vt):UB l 0 0 0:=⟨by omega,by omega,fun y hy=>⟨fun _=>⟨fun i h=>by omega,fun k h=>by omega⟩,fun _=>hy⟩⟩
theorem UB.next {l:List Vt} {i k:Nat} {x:Int} (h:UB l i k x) (hi:i≤l.length):UB l i (k+1) (max x (active (l.take i) (lpAt l k))):=by
 obtain ⟨h0,h1,h2⟩:=h;have hb:=actv_b (l.take i) (lpAt l k);have hl:(l.take i).length≤l.length:=by rw[List.length_take];omega
 refine ⟨by omega,by unfold active;omega,fun y hy=>?_⟩;have e:max x (active (l.take i) (lpAt l k))≤y↔x≤y∧actv (l.take i) (lpAt l k)≤y:=by unfold active;omega
 rw[e,h2 y hy];constructor
 ·rintro ⟨⟨a,b⟩,c⟩;refine ⟨a,fun k' hk=>?_⟩;by_cases hc:k'=k
  ·subst hc;exact c
  ·exact b k' ke
 ·rintro ⟨a,b⟩;exact ⟨⟨a,fun k' hk=>b k' ke⟩,b k ke⟩
def getI (A:List (Int×Int)) (i:Int):Int:=match A with|[]=>0|p::A=>if i=p.1 then p.2 else getI A i
def putI (A:List (Int×Int)) (i x:Int):List (Int×Int):=match A with|[]=>[(i,x)]|p::A=>if i=p.1 then (i,x)::A else p::putI A i x
def esI (A:List (Int×Int)):List (Value×AV):=A.map fun p=>(.int .i64 p.1,.v (.int .i64 p.2))
theorem getM_I (A:List (Int×Int)) (i:Int):getM (.int .i64) (absV (.int .i64 0)) (.int .i64 i) (esI A)=some (.v (.int .i64 (getI A i))):=by
 induction A with
 | nil=>rfl
 | cons p A ih=>
  simp only[esI,List.map_cons,getM,eqC,if_true,getI] at ih ⊢;by_cases h:i=p.1
  ·subst h;simp
  ·rw[show (i==p.1)=false by simpa using h,if_neg h];exact ih
theorem putM_I (A:List (Int×Int)) (i x:Int):putM (.int .i64) (.int .i64 i) (.v (.int .i64 x)) (esI A)=some (esI (putI A i x)):=by
 induction A with
 | nil=>rfl
 | cons p A ih=>
  simp only[esI,List.map_cons,putM,eqC,if_true,putI] at ih ⊢;by_cases h:i=p.1
  ·subst h;simp[Instr.sameBits]
  ·rw[show (i==p.1)=false by simpa using h,if_neg h];simp only[ih,Option.map_some,List.map_cons]
theorem getI_putI (A:List (Int×Int)) (i x j:Int):getI (putI A i x) j=if j=i then x else getI A j:=by
 induction A with
 | nil=>simp[putI,getI]
 | cons p A ih=>
  simp only[putI];by_cases h:i=p.1
  ·subst h;simp only[if_true,getI];split<;>rfl
  ·rw[if_neg h];simp only[getI,ih];by_cases h2:j=p.1
   ·rw[if_pos h2,if_pos h2,if_neg ke]
   ·rw[if_neg h2,if_neg h2]
def aVts (l:List Vt):AV:=.sl l.length (l.flatMap aVt) .none
theorem aVts_pure (l:List Vt):(aVts l).pure=true:=by
 have:AV.pureL (l.flatMap aVt)=true:=by
  induction l with
  | nil=>rfl
  | cons x l ih=>rw[List.flatMap_cons,show ∀k,AV.pureL (aVt x++k)=AV.pureL k from fun k=>by simp[aVt,AV.pureL,AV.pure]];exact ih
 simp[aVts,AV.pure,this]
theorem c4v (e:Vt) (t:List AV):cellsA (some 4) (aVt e++t)=some (.agg (aVt e)):=by simp[cellsA,aVt]
theorem X15 (e:Vt):FnP Tryz.prog 60 [.agg (aVt e)] fun a=>a=aInt (moreI e.kind):=by
 refine Qg X14.2 mixed rfl (by simp[AV.pureL,AV.pure,aVt]) ?_;simp only[X14,qH];have hac:(AV.agg (aVt e)).cells=aVt e:=rfl;have g0:(aVt e)[0]?=some (.v (.int .i64 e.kind)):=rfl;have g0':(aVt e)[Int.toNat 0]?=some (.v (.int .i64 e.kind)):=rfl;by_cases c1:e.kind=1
 ·have hm:moreI e.kind=1:=by unfold moreI;rw[if_pos c1]
  rw[hm];push_cast -implicitDefEqProofs;refine Q6 ?_;push_cast -implicitDefEqProofs[hac,g0,g0',c1];exact oo
 by_cases c4:e.kind=4
 ·have hm:moreI e.kind=-1:=by unfold moreI;rw[if_neg c1,if_pos c4]
  rw[hm];push_cast -implicitDefEqProofs;refine Q6 ?_;push_cast -implicitDefEqProofs[hac,g0,g0',c4];exact oo
 ·have hm:moreI e.kind=0:=by unfold moreI;rw[if_neg c1,if_neg c4]
  rw[hm];push_cast -implicitDefEqProofs;refine Q6 ?_;push_cast -implicitDefEqProofs[hac,g0,g0',c1,c4];exact oo
theorem w64_sm {n:Int} (h0:-1000000000≤n) (h1:n≤1000000000):IntKind.i64.wrap n=n:=Q30 ke ke
set_option maxHeartbeats 4000000 in
theorem Y46 (l:List Vt) (hl:l.length≤1000000):FnP Tryz.prog 24 [aVts l] fun a=>a=aInt (mostF l):=by
 refine Qg X13.2 mixed rfl (by simp[AV.pureL,AV.pure,aVts_pure]) ?_;simp only[X13,qH];push_cast -implicitDefEqProofs (disch:=omega)[aVts];refine wpa_mkm ?_;push_cast -implicitDefEqProofs (disch:=omega)
 refine Q73 (α:=Nat) (I:=fun k ε σ=>(ε 3=.v (.int .i64 (mostAt l k))∧ε 4=.mp 0∧ε 8=.sl l.length (l.flatMap aVt) .none∧ε 9=.v (.int .i64 l.length)∧ε 10=.v (.int .i64 k))∧k≤l.length∧∃A,σ[0]?=some (.map (esI A))∧∀p,getI A p=actv (l.take k) p)
  (μ:=fun k=>l.length - k) (Q:=fun ε σ=>ε 3=.v (.int .i64 (mostF l))) (x:=0) ?_ ?_ ?_
 ·have e0:mostAt l 0=0:=rfl;push_cast -implicitDefEqProofs (disch:=omega)[e0];refine ⟨by omega,[],rfl,fun p=>rfl⟩
 ·rintro k ε σ N E ⟨hρ,hk,A,hA,hp⟩ hN hE;by_cases hlt:k < l.length
  ·obtain ⟨e,he⟩:=Q14 hlt;have hd:=QQ aVt_len he;have hset:setAtA [AV.v (.int .i64 0),AV.v (.int .i64 0),AV.v (.int .i64 0),AV.v (.int .i64 0)] 0 (aVt e)=aVt e:=rfl;have g1:(aVt e)[1]?=some (.v (.int .i64 e.loop)):=rfl;have c4:cellsA (some 4) (aVt e)=some (.agg (aVt e)):=rfl;have x4:(AV.agg (aVt e)).exact=true:=rfl;have hs:=actv_snoc (l.take k) e;rw[←Qt he] at hs;have hb:=actv_b (l.take k) e.loop;have hlk:(l.take k).length=k:=by rw[List.length_take];omega
   have hm:=moreI_b e.kind;have hw:=w64_sm (n:=actv (l.take k) e.loop+moreI e.kind) ke ke;have hlp:lpAt l k=e.loop:=by unfold lpAt;rw[he]
   have hat:mostAt l (k+1)=max (mostAt l k) (actv (l.take (k+1)) e.loop):=by rw[←hlp];rfl
   have hsl:=hs e.loop;rw[if_pos rfl] at hsl;have hmb:=mostAt_b l k;have hgm:=getM_I A e.loop;rw[hp] at hgm;have hpu:=putM_I A e.loop (actv (l.take k) e.loop+moreI e.kind);have hgm2:=getM_I (putI A e.loop (actv (l.take k) e.loop+moreI e.kind)) e.loop;rw[getI_putI,if_pos rfl] at hgm2
   have hp2:∀p,getI (putI A e.loop (actv (l.take k) e.loop+moreI e.kind)) p=actv (l.take (k+1)) p:=by
    intro p;rw[getI_putI,hs p];by_cases c:p=e.loop
    ·subst c;simp
    ·rw[if_neg c,if_neg (fun e=>c e.symm),hp]
   have hA1:(σ++[Res.obj 0 (aVt e)])[0]?=some (.map (esI A)):=Qn hA;have hb1:(σ++[Res.obj 0 (aVt e)])[σ.length]?=some (.obj 0 (aVt e)):=Qe _ _;have hpos:=Qh hA;push_cast -implicitDefEqProofs (disch:=omega)[hρ,hd,c4v];refine Ql ?_;push_cast -implicitDefEqProofs (disch:=omega);refine Qd (cs:=[AV.v (.int .i64 0),AV.v (.int .i64 0),AV.v (.int .i64 0),AV.v (.int .i64 0)]) rfl rfl (Qe _ _) ki ?_;rw[hset,Qr];generalize hS:σ++[Res.obj 0 (aVt e)]=S at hA1 hb1 ⊢;generalize hb:σ.length=i0 at hb1 hpos ⊢;clear hS hb;have hb2:∀r,(S.set 0 r)[i0]?=some (.obj 0 (aVt e)):=fun r=>Qa ke hb1;have hA2:∀r,(S.set 0 r)[0]?=some r:=fun r=>Qc hA1;have fin:∀ε':AEnv,((ε' 3=.v (.int .i64 (mostAt l (k+1)))∧ε' 4=.mp 0∧ε' 8=.sl l.length (l.flatMap aVt) .none∧ε' 9=.v (.int .i64 l.length)∧ε' 10=.v (.int .i64 ((k+1:Nat):Int))))→Go.Kx.act (N ε' (S.set 0 (.map (esI (putI A e.loop (actv (l.take k) e.loop+moreI e.kind)))))):=fun ε' h=>hN (k+1) _ _ ⟨h,by omega,_,hA2 _,hp2⟩ ke;have hmx:max (mostAt l k) (actv (l.take k) e.loop+moreI e.kind)=mostAt l (k+1):=by rw[hat,hsl]
   push_cast -implicitDefEqProofs (disch:=omega)[hρ,hb1,g1,c4,x4];refine both2 ?_ ?_
   ·refine Y91 hA1 hgm ?_;push_cast -implicitDefEqProofs (disch:=omega)[hb1,c4,x4];refine Q5 (X15 e) ?_;push_cast -implicitDefEqProofs (disch:=omega)[aInt,hw];refine wpa_mup hA1 hpu ?_;push_cast -implicitDefEqProofs (disch:=omega)[hρ,hb2,g1];refine Y91 (hA2 _) hgm2 ?_;push_cast -implicitDefEqProofs (disch:=omega)[hmx,hρ];refine fin _ ?_;push_cast -implicitDefEqProofs (disch:=omega)[hρ]
   ·refine Q5 (X15 e) ?_;push_cast -implicitDefEqProofs (disch:=omega)[aInt,hb1,g1];refine Y91 hA1 hgm ?_;push_cast -implicitDefEqProofs (disch:=omega)[hw];refine wpa_mup hA1 hpu ?_;push_cast -implicitDefEqProofs (disch:=omega)[hρ,hb2,g1];refine Y91 (hA2 _) hgm2 ?_;push_cast -implicitDefEqProofs (disch:=omega)[hmx,hρ];refine fin _ ?_;push_cast -implicitDefEqProofs (disch:=omega)[hρ]
  ·push_cast -implicitDefEqProofs (disch:=omega)[hρ];refine hE _ _ ?_;obtain rfl:k=l.length:=by omega
   push_cast -implicitDefEqProofs (disch:=omega)[hρ];rfl
 ·intro ε σ hρ;push_cast -implicitDefEqProofs (disch:=omega)[hρ];exact oo
end Go.Proofs.YtelibaobkcokdaaGreat.Mx
namespace Go.Proofs.YtelibaobkcokdaaGreat
open Go Go.Kx Go.Proofs
set_option linter.unusedVariables false
set_option maxRecDepth 100000
set_option maxHeartbeats 16000000
noncomputable def Zq:=qH Tryz.prog 54
end Go.Proofs.YtelibaobkcokdaaGreat
namespace Go.Proofs.YtelibaobkcokdaaGreat
set_option linter.unusedVariables false
set_option linter.unusedSimpArgs false
open Go Go.Kx Go.Proofs
set_option maxRecDepth 100000
set_option maxHeartbeats 16000000
noncomputable def Z00:=qG Tryz.prog 20
set_option maxHeartbeats 8000000 in
theorem Jo (m:Int) (fs:List (List Ix)) (hl:fs.length≤9223372036854775807):FnP Tryz.prog 54 [.agg (aPr m fs)] fun a=>∃b,a=aBool b∧(b=false→okF fs):=by
 refine Qg Zq.2 mixed rfl (by simp[AV.pureL,AV.pure,Zy]) ?_;simp only[Zq,qH];have hac:(AV.agg (aPr m fs)).cells=aPr m fs:=rfl;have g1:(aPr m fs)[1]?=some (.sl fs.length (fs.map aIxs) .none):=rfl;push_cast -implicitDefEqProofs (disch:=omega);refine Qs ?_;by_cases h40:40 < fs.length
 ·push_cast -implicitDefEqProofs (disch:=omega)[hac,g1,h40];exact ⟨[],rfl,true,rfl,by simp⟩
 push_cast -implicitDefEqProofs (disch:=omega)[hac,g1,h40]
 refine Q73 (α:=Nat) (I:=fun k ε σ=>(ε 1=.ref 0 0 0∧ε 3=.v (.int .i64 k))∧k≤fs.length∧σ[0]?=some (.obj 0 (aPr m fs))∧∀l∈fs.take k,l.length≤300)
  (μ:=fun k=>fs.length - k) (Q:=fun ε σ=>∀l∈fs,l.length≤300) (x:=0) ?_ ?_ ?_
 ·push_cast -implicitDefEqProofs (disch:=omega)
  first|exact ⟨by omega,rfl,fun l hl=>by simp at hl⟩|exact ⟨by omega,fun l hl=>by simp at hl⟩|exact fun l hl=>by simp at hl
 ·rintro k ε σ N E ⟨hρ,hk,hs,hall⟩ hN hE;by_cases hlt:k < fs.length
  ·obtain ⟨l,hl'⟩:=Q14 hlt;have hIL:aIxs l=.sl l.length (l.flatMap aIx) .none:=rfl;by_cases h300:300 < l.length
   ·push_cast -implicitDefEqProofs (disch:=omega)[hρ,hs,g1,hl',hIL,h300];exact ⟨[],rfl,true,rfl,by simp⟩
   ·push_cast -implicitDefEqProofs (disch:=omega)[hρ,hs,g1,hl',hIL,h300];refine hN (k+1) _ _ ⟨by push_cast -implicitDefEqProofs (disch:=omega)[hρ],by omega,hs,fun x hx=>?_⟩ ke;rw[Qt hl'] at hx;rcases List.mem_append.1 hx with hx|hx
    ·exact hall x hx
    ·simp at hx;subst hx;omega
  ·push_cast -implicitDefEqProofs (disch:=omega)[hρ,hs,g1];refine hE _ _ ?_;rw[List.take_of_length_le ke] at hall;exact hall
 ·intro ε σ hall;push_cast -implicitDefEqProofs (disch:=omega);exact ⟨[],rfl,false,rfl,fun _=>⟨by omega,hall⟩⟩
set_option maxHeartbeats 8000000 in
theorem Y31 (m:Int) (fs:List (List Ix)) (hf:okF fs):FnP Tryz.prog 20 [.agg (aPr m fs)] fun a=>a=.agg (aPr m fs):=by
 refine ⟨by simp[AV.pureL,AV.pure,Zy],FnG.fz ?_⟩;refine Y92 Z00.2 mixed rfl ?_;simp only[Z00,qG];obtain ⟨hf1,hf2⟩:=hf;have hac:(AV.agg (aPr m fs)).cells=aPr m fs:=rfl;have g0:(aPr m fs)[0]?=some (.v (.int .i64 m)):=rfl;have g1:(aPr m fs)[1]?=some (.sl fs.length (fs.map aIxs) .none):=rfl;have hb:fillA [AV.v (.int .i64 0),AV.sl 0 [] .nil] [(0,1)] [AV.v (.int .i64 m)]=some [AV.v (.int .i64 m),AV.sl 0 [] .nil]:=by simp[fillA,AV.cells,Value.cells,setAtA]
 refine Qb (fun ε σ=>(ε 1=.ref 0 0 0∧ε 2=.ref 1 0 0)∧σ=[.obj 0 (aPr m fs),.obj 0 [.v (.int .i64 0),.sl 0 [] .nil]]) ?_ ?_
 ·intro N X R hN;push_cast -implicitDefEqProofs (disch:=omega);refine Qs ?_;push_cast -implicitDefEqProofs (disch:=omega)[hac];refine Ql ?_;push_cast -implicitDefEqProofs (disch:=omega);exact hN _ _ (by push_cast -implicitDefEqProofs (disch:=omega))
 rintro ε σ ⟨hρ,rfl⟩;refine Qb (fun ε σ=>(ε 1=.ref 0 0 0∧ε 2=.ref 1 0 0∧ε 3=.ref 2 0 0)∧σ=[.obj 0 (aPr m fs),.obj 0 [.v (.int .i64 0),.sl 0 [] .nil],.obj 0 [.v (.int .i64 m),.sl 0 [] .nil]]) ?_ ?_
 ·intro N X R hN;push_cast -implicitDefEqProofs (disch:=omega)[hρ,g0,hb];refine Ql ?_;push_cast -implicitDefEqProofs (disch:=omega);refine Qd (cs:=[AV.v (.int .i64 0),AV.sl 0 [] .nil]) rfl rfl rfl ka ?_;have hset:setAtA [AV.v (.int .i64 0),AV.sl 0 [] .nil] 0 [AV.v (.int .i64 m),AV.sl 0 [] .nil]=[AV.v (.int .i64 m),AV.sl 0 [] .nil]:=rfl;rw[hset];push_cast -implicitDefEqProofs (disch:=omega);exact hN _ _ oB
 clear hρ ε;rintro ε σ ⟨hρ,rfl⟩;refine Qb (fun ε σ=>(ε 2=.ref 1 0 0∧ε 3=.ref 2 0 0)∧∃w,σ=[.obj 0 (aPr m fs),.obj 0 [.v (.int .i64 0),.sl 0 [] .nil],.obj 0 [.v (.int .i64 m),.sl fs.length (fs.map aIxs) (.id 3 w 1)],.tail w]) ?_ ?_
 ·intro N X R hN;push_cast -implicitDefEqProofs (disch:=omega)[hρ]
  refine XR (GU.tokO (i:=2) (j:=1) 1 rfl rfl) (α:=Nat) (I:=fun k ε σ=>(ε 1=.ref 0 0 0∧ε 2=.ref 1 0 0∧ε 3=.ref 2 0 0∧ε 4=.v (.int .i64 k))∧k≤fs.length∧∃w,σ=[.obj 0 (aPr m fs),.obj 0 [.v (.int .i64 0),.sl 0 [] .nil],.obj 0 [.v (.int .i64 m),.sl k ((fs.take k).map aIxs) (.id 3 w 1)],.tail w])
   (μ:=fun k=>fs.length - k) (Q:=fun ε σ=>(ε 2=.ref 1 0 0∧ε 3=.ref 2 0 0)∧∃w,σ=[.obj 0 (aPr m fs),.obj 0 [.v (.int .i64 0),.sl 0 [] .nil],.obj 0 [.v (.int .i64 m),.sl fs.length (fs.map aIxs) (.id 3 w 1)],.tail w]) (x:=0) ?_ ?_ hN
  ·push_cast -implicitDefEqProofs (disch:=omega)[hρ];exact ⟨by omega,0,rfl⟩
  ·clear hN N X R hρ ε;rintro k ε σ N E X R ⟨hρ,hk,w,rfl⟩ hN hE;by_cases hlt:k < fs.length
   ·obtain ⟨l,hl⟩:=Q14 hlt;have hll:=hf2 l (List.mem_of_getElem? hl);have hIL:aIxs l=.sl l.length (l.flatMap aIx) .none:=rfl;have hfl:=Q38 X18 l;have hex:(AV.sl k ((fs.take k).map aIxs) (.id 3 w 1)).exact=true:=rfl;have hlk:(fs.take k).length=k:=by rw[List.length_take];omega
    push_cast -implicitDefEqProofs (disch:=omega)[hρ,g1,hl];refine Qp (sz:=4) (by intro a ha;simp at ha) ki ?_;push_cast -implicitDefEqProofs (disch:=omega)[hIL];refine QP (m:=l.length) rfl rfl hfl (by rw[List.all_flatMap];simp only[show ∀x,(aIx x).all AV.one=true from fun x=>rfl];simp) rfl ke ke ?_;push_cast -implicitDefEqProofs (disch:=omega)[hρ];refine ⟨by first|exact hex|exact Qx (by push_cast -implicitDefEqProofs (disch:=omega)[hρ,hex]),?_⟩;refine Qp (sz:=1) oI ki ?_;push_cast -implicitDefEqProofs (disch:=omega);refine ⟨by first|exact hex|exact Qx (by push_cast -implicitDefEqProofs (disch:=omega)[hρ,hex]),?_⟩;refine Xt (m:=1) rfl rfl rfl rfl eJ ke ke rfl ?_;push_cast -implicitDefEqProofs (disch:=omega)[hρ];refine Q8 rfl rfl rfl ki ?_;push_cast -implicitDefEqProofs (disch:=omega)[hρ];refine hN (k+1) _ _ ⟨by push_cast -implicitDefEqProofs (disch:=omega)[hρ],by omega,w+1,?_⟩ ke;rw[Qt hl];simp[AV.cells,aIxs,aSlN]
   ·push_cast -implicitDefEqProofs (disch:=omega)[hρ,g1];obtain rfl:k=fs.length:=by omega
    rw[List.take_length];exact hE _ _ ⟨by push_cast -implicitDefEqProofs (disch:=omega)[hρ],w,rfl⟩
 clear hρ ε;rintro ε σ ⟨hρ,w,rfl⟩;have hc2:cellsA (some 2) [AV.v (.int .i64 m),.sl fs.length (fs.map aIxs) (.id 3 w 1)]=some (.agg [AV.v (.int .i64 m),.sl fs.length (fs.map aIxs) (.id 3 w 1)]):=rfl;push_cast -implicitDefEqProofs (disch:=omega)[hρ,hc2];refine Qd (cs:=[AV.v (.int .i64 0),AV.sl 0 [] .nil]) rfl rfl rfl ka ?_;have hset:setAtA [AV.v (.int .i64 0),AV.sl 0 [] .nil] 0 [AV.v (.int .i64 m),.sl fs.length (fs.map aIxs) (.id 3 w 1)]=[AV.v (.int .i64 m),.sl fs.length (fs.map aIxs) (.id 3 w 1)]:=rfl;rw[hset];push_cast -implicitDefEqProofs (disch:=omega)[hρ,hc2];have hr:∀σ,(AV.agg [AV.v (.int .i64 m),.sl fs.length (fs.map aIxs) (.id 3 w 1)]).res σ=.agg (aPr m fs):=fun σ=>by have h1:=aFs_res σ fs (.id 3 w 1);simp only[AV.res,AV.resL] at h1 ⊢;rw[h1];rfl
 refine ⟨[],?_,?_⟩
 ·rw[hr];simp[AV.pure,Zy]
 ·rw[hr]
end Go.Proofs.YtelibaobkcokdaaGreat
namespace Go.Proofs.YtelibaobkcokdaaGreat
open Go Go.Kx Go.Proofs
set_option linter.unusedVariables false
set_option maxRecDepth 100000
set_option maxHeartbeats 16000000
noncomputable def Zr:=qH Tryz.prog 17
noncomputable def Z01:=qH Tryz.prog 41
noncomputable def Zs:=qH Tryz.prog 53
noncomputable def Q93:=qG Tryz.prog 40
end Go.Proofs.YtelibaobkcokdaaGreat
