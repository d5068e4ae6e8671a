/- The machine: what it tells. The machine: how a run came out. The machine: what workers are like. -/
import Derived.Test.YtelibaobkcokdaaGreatA2M3
namespace Go.Proofs.YtelibaobkcokdaaGreat.Mx
set_option linter.unusedSectionVars false
set_option linter.unusedVariables false
set_option linter.unusedSimpArgs false
open Go Go.Kx Go.Proofs Go.Proofs.YtelibaobkcokdaaGreat
set_option maxRecDepth 8000
def aIntsN (d:List Int):AV:=if d=[] then .sl 0 [] .nil else aInts d
theorem Clone_sl {σ:Kx.St} {d:List Int} {t:Tok} (hd:d.length≤1000000) (ht:t=.nil↔d=[]):FnG Tryz.prog 89 [.sl d.length (d.map aInt) t] σ fun a σ'=>a=aIntsN d∧σ'=σ:=by
 refine Q2 Z65 mixed rfl ?_
 simp only[Q20]
 by_cases c:d=[]
 ·have e:aIntsN d=.sl 0 [] .nil:=if_pos c
  rw[e,ht.2 c,c]
  have hn:PF.av (.eqn false 1) [.sl 0 [] .nil]=some (.v (.bool true)):=rfl
  push_cast (maxSteps:=999999) -implicitDefEqProofs (disch:=omega)[List.length_nil,List.map_nil,hn]
  first|exact trivial|exact ⟨rfl,rfl⟩|exact rfl
 ·have e:aIntsN d=.sl d.length (d.map aInt) .none:=if_neg c
  rw[e]
  have hl:0 < d.length:=List.length_pos_iff.2 c
  have hn:PF.av (.eqn false 1) [.sl d.length (d.map aInt) t]=some (.v (.bool false)):=by
   have hl0:d.length≠0:=by omega
   have htn:t≠.nil:=fun e=>c (ht.1 e)
   cases t<;>first|exact absurd rfl htn|(simp[PF.av,c];done)|(simp[PF.av,hl0];done)|(simp[PF.av];done)
  have h1:(d.map aInt).all AV.one=true:=by rw[List.all_map];exact List.all_eq_true.2 fun x _=>rfl
  push_cast (maxSteps:=999999) -implicitDefEqProofs (disch:=omega)[hn]
  refine ZX (sz:=1) (by simp) (by simp) ?_
  push_cast (maxSteps:=999999) -implicitDefEqProofs (disch:=omega)
  refine Jw (n:=0) (cs:=[]) (m:=d.length) rfl rfl (by simp) h1 rfl (by omega) (by omega) ?_
  push_cast (maxSteps:=999999) -implicitDefEqProofs (disch:=omega)
  first|exact trivial|exact ⟨rfl,rfl⟩|exact rfl
section
variable {q:Pm} {pl:Pl} {σ:Kx.St} {L:List Wk} {s:Cs}
theorem sink_All_a (h:MM q pl σ L s):FnG Tryz.prog 48 [.ref (pl.p .so) 0 0] σ fun a σ'=>a=aIntsN s.out∧σ'=σ:=by
 refine Q2 Y54 mixed rfl ?_
 simp only[Z93]
 have hso:=h.at_ .so _ rfl
 have ho:=h.sd.o0
 have hl:=h.sd.ol
 push_cast (maxSteps:=999999) -implicitDefEqProofs (disch:=omega)[hso]
 refine Q0 (Clone_sl (by omega) ?_) ?_
 ·cases hv:pl.ov with
  | none=>simp only[tokT,true_iff];exact ho.1 hv
  | some v=>
   simp only[tokT]
   constructor
   ·intro e;cases e
   ·intro e;have:=ho.2 e;rw[hv] at this;cases this
 rintro a σ' ⟨rfl,hs⟩
 rw[hs];clear hs
 push_cast (maxSteps:=999999) -implicitDefEqProofs (disch:=omega)
 first|exact trivial|exact ⟨rfl,rfl⟩|exact rfl
end
end Go.Proofs.YtelibaobkcokdaaGreat.Mx
namespace Go.Proofs.YtelibaobkcokdaaGreat.Mx
set_option linter.unusedVariables false
set_option linter.unusedSimpArgs false
open Go Go.Kx Go.Proofs Go.Proofs.YtelibaobkcokdaaGreat
set_option maxRecDepth 8000
def Mc.state (m:Mc):Int:=if m.c.status=0∧m.ended=true then 6 else m.c.status
def aVw (w:Wk):List AV:=[.v (.int .i64 w.state),.v (.int .i64 w.holds),.v (.int .i64 w.tail),.v (.int .i64 w.probed)]
theorem JU {q:Pm} {pl:Pl} {σ:Kx.St} {L:List Wk} {s:Cs} (h:MM q pl σ L s) {k:Nat} {w:Wk} (hk:L[k]?=some w):FnG Tryz.prog 16 [.ref (pl.p (.wk k)) 0 0] σ fun a σ'=>a=.agg (aVw w)∧σ'=σ:=by
 refine FnG.drop0 (fun a ha=>by subst ha;rfl) ?_
 refine Q2 QV mixed rfl ?_
 simp only[QH]
 have hw:=h.wk hk
 have g1:(aWk pl k w)[1]?=some (.v (.int .i64 w.state)):=rfl
 have g2:(aWk pl k w)[2]?=some (.v (.int .i64 w.holds)):=rfl
 have g3:(aWk pl k w)[3]?=some (.v (.int .i64 w.tail)):=rfl
 have g4:(aWk pl k w)[4]?=some (.v (.int .i64 w.probed)):=rfl
 have hw':∀ρ:Kx.St,(σ++ρ)[pl.p (.wk k)]?=_:=fun ρ=>Qk hw
 have hz:∀l:List AV,l.length=4→setAtA [AV.v (.int .i64 0),AV.v (.int .i64 0),AV.v (.int .i64 0),AV.v (.int .i64 0)] 0 l=l:=fun l hl=>QR (by rw[hl];rfl)
 have hb:fillA [AV.v (.int .i64 0),AV.v (.int .i64 0),AV.v (.int .i64 0),AV.v (.int .i64 0)] [(0,1),(1,1),(2,1),(3,1)] [.v (.int .i64 w.state),.v (.int .i64 w.holds),.v (.int .i64 w.tail),.v (.int .i64 w.probed)]=some (aVw w):=by simp[fillA,AV.cells,Value.cells,setAtA,aVw]
 have c4:cellsA (some 4) (aVw w)=some (.agg (aVw w)):=rfl
 push_cast (maxSteps:=999999) -implicitDefEqProofs (disch:=omega)
 refine Qb ?_
 push_cast (maxSteps:=999999) -implicitDefEqProofs (disch:=omega)[hw',g1,g2,g3,g4,hb]
 refine Q8 (cs:=[AV.v (.int .i64 0),AV.v (.int .i64 0),AV.v (.int .i64 0),AV.v (.int .i64 0)]) (l:=aVw w) rfl rfl (Qc _ _) (Nat.le_refl 4) ?_
 rw[hz _ rfl,Qu]
 push_cast (maxSteps:=999999) -implicitDefEqProofs (disch:=omega)[Qc,c4]
 exact ⟨_,rfl⟩
end Go.Proofs.YtelibaobkcokdaaGreat.Mx
