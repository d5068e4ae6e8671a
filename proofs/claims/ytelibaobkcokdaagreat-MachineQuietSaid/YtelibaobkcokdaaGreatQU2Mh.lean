/- The machine: frames, and their table. -/
import Derived.Test.YtelibaobkcokdaaGreatQU2Mg
namespace Go.Proofs.YtelibaobkcokdaaGreat.Mx
set_option linter.unusedSectionVars false
set_option linter.unusedVariables false
set_option linter.unusedSimpArgs false
open Go Go.Kx Go.Proofs Go.Proofs.YtelibaobkcokdaaGreat
set_option maxRecDepth 8000
def aFm (f:Fm):List AV:=[.v (.int .i64 f.kind),.v (.int .i64 f.fn),.v (.int .i64 f.pc),aR1 f.regs 0,aR1 f.regs 1,aR1 f.regs 2,aR1 f.regs 3,aR1 f.regs 4,aR1 f.regs 5,aR1 f.regs 6,aR1 f.regs 7,.v (.int .i64 f.parent),.v (.bool f.dirty),.v (.bool f.due),.v (.int .i64 f.index),.v (.int .i64 f.stage),.v (.int .i64 f.fold),.v (.int .i64 f.started),.v (.int .i64 f.serial)]
theorem Q03 (f:Fm):(aFm f).length=19:=rfl
theorem Y36 (f:Fm):(aFm f).all AV.one=true:=rfl
section
variable (f:Fm)
theorem fmi0:(aFm f)[0]?=some (.v (.int .i64 f.kind)):=rfl
theorem fms0 (x:Int):(aFm f).set 0 (.v (.int .i64 x))=aFm { f with kind:=x }:=rfl
theorem fmi1:(aFm f)[1]?=some (.v (.int .i64 f.fn)):=rfl
theorem fms1 (x:Int):(aFm f).set 1 (.v (.int .i64 x))=aFm { f with fn:=x }:=rfl
theorem fmi2:(aFm f)[2]?=some (.v (.int .i64 f.pc)):=rfl
theorem fms2 (x:Int):(aFm f).set 2 (.v (.int .i64 x))=aFm { f with pc:=x }:=rfl
theorem fmi11:(aFm f)[11]?=some (.v (.int .i64 f.parent)):=rfl
theorem fms11 (x:Int):(aFm f).set 11 (.v (.int .i64 x))=aFm { f with parent:=x }:=rfl
theorem fmi12:(aFm f)[12]?=some (.v (.bool f.dirty)):=rfl
theorem fms12 (x:Bool):(aFm f).set 12 (.v (.bool x))=aFm { f with dirty:=x }:=rfl
theorem fmi13:(aFm f)[13]?=some (.v (.bool f.due)):=rfl
theorem fms13 (x:Bool):(aFm f).set 13 (.v (.bool x))=aFm { f with due:=x }:=rfl
theorem fmi14:(aFm f)[14]?=some (.v (.int .i64 f.index)):=rfl
theorem fms14 (x:Int):(aFm f).set 14 (.v (.int .i64 x))=aFm { f with index:=x }:=rfl
theorem fmi15:(aFm f)[15]?=some (.v (.int .i64 f.stage)):=rfl
theorem fms15 (x:Int):(aFm f).set 15 (.v (.int .i64 x))=aFm { f with stage:=x }:=rfl
theorem fmi16:(aFm f)[16]?=some (.v (.int .i64 f.fold)):=rfl
theorem fms16 (x:Int):(aFm f).set 16 (.v (.int .i64 x))=aFm { f with fold:=x }:=rfl
theorem fmi17:(aFm f)[17]?=some (.v (.int .i64 f.started)):=rfl
theorem fms17 (x:Int):(aFm f).set 17 (.v (.int .i64 x))=aFm { f with started:=x }:=rfl
theorem fmi18:(aFm f)[18]?=some (.v (.int .i64 f.serial)):=rfl
theorem fms18 (x:Int):(aFm f).set 18 (.v (.int .i64 x))=aFm { f with serial:=x }:=rfl
theorem fmc8:cellsA (some 8) ((aFm f).drop 3)=some (.agg (aRg f.regs)):=rfl
theorem fmc19:cellsA (some 19) (aFm f)=some (.agg (aFm f)):=rfl
theorem fms3 (rs:List Int):setAtA (aFm f) 3 (aRg rs)=aFm { f with regs:=rs }:=rfl
theorem fm_cells:(AV.agg (aFm f)).cells=aFm f:=rfl
theorem fm_ex:(AV.agg (aFm f)).exact=true:=rfl
end
theorem rg_ex (rs:List Int):(AV.agg (aRg rs)).exact=true:=rfl
attribute [push_cast] rg_ex fmc8 fmc19 fms3 fm_cells fm_ex fmi0 fms0 fmi1 fms1 fmi2 fms2 fmi11 fms11 fmi12 fms12 fmi13 fms13 fmi14 fms14 fmi15 fms15 fmi16 fms16 fmi17 fms17 fmi18 fms18
theorem X04:∀(l A B:List AV),A.length=l.length→setAtA (A++B) 0 l=l++B:=by
 intro l
 induction l with
 | nil=>intro A B h;rw[List.eq_nil_of_length_eq_zero h];rfl
 | cons a l ih=>
  intro A B h
  cases A with
  | nil=>simp at h
  | cons x A=>
   simp only[List.length_cons,Nat.add_right_cancel_iff] at h
   show setAtA (a::(A++B)) 1 l=a::(l++B)
   have:=X25 [a] [] 0 l (A++B) 0
   simp only[List.length_singleton,Nat.add_zero,List.singleton_append] at this
   rw[this,ih A B h]
theorem Q07 {l A:List AV} (h:A.length=l.length):setAtA A 0 l=l:=by
 have:=X04 l A [] h
 simpa using this
theorem flat_setAll {α:Type} {f:α→List AV} {n:Nat} (hn:∀a,(f a).length=n) {g:α} (h0:∀a B,setAtA (f a++B) 0 (f g)=f g++B):∀{L:List α} {k:Nat},k < L.length→setAtA (L.flatMap f) (k * n) (f g)=(L.set k g).flatMap f:=by
 intro L
 induction L with
 | nil=>intro k h;simp at h
 | cons y L ih=>
  intro k h
  cases k with
  | zero=>simp only[Nat.zero_mul,List.set_cons_zero,List.flatMap_cons];exact h0 y _
  | succ k=>
   simp only[List.length_cons] at h
   simp only[List.set_cons_succ,List.flatMap_cons]
   rw[show (k+1) * n=(f y).length+k * n by rw[hn,Nat.succ_mul];omega,X25 (f y) [] 0,ih (by omega)]
theorem fm_setAll (fr:List Fm) {k:Nat} (h:k < fr.length) (f:Fm):setAtA (fr.flatMap aFm) (k * 19) (aFm f)=(fr.set k f).flatMap aFm:=flat_setAll Q03 (fun a B=>X04 _ _ B rfl) h
theorem fr_len (fr:List Fm):(fr.flatMap aFm).length=fr.length * 19:=Q28 Q03 fr
def fillK (ws:List Int) (a m n:Int) (k:Nat):List Int:=ws.mapIdx fun i x=>if i < k∧a≤i∧(i:Int) - a < m then n else x
theorem fillK_len (ws:List Int) (a m n:Int) (k:Nat):(fillK ws a m n k).length=ws.length:=by simp[fillK]
theorem fillK_0 (ws:List Int) (a m n:Int):fillK ws a m n 0=ws:=by
 apply List.ext_getElem?;intro i;simp[fillK]
theorem fillK_end (ws:List Int) (a m n:Int):fillK ws a m n ws.length=fillW ws a m n:=by
 apply List.ext_getElem?;intro i
 simp only[fillK,fillW,List.getElem?_mapIdx]
 by_cases hi:i < ws.length
 ·simp[hi]
 ·rw[List.getElem?_eq_none (by omega)];rfl
theorem fillK_yes {ws:List Int} {a m n:Int} {k:Nat} (h1:a≤k) (h2:(k:Int) - a < m):(fillK ws a m n k).set k n=fillK ws a m n (k+1):=by
 apply List.ext_getElem?;intro i
 rw[List.getElem?_set]
 simp only[fillK,List.getElem?_mapIdx,List.length_mapIdx]
 by_cases hik:k=i
 ·subst hik
  by_cases hi:k < ws.length
  ·simp[hi,h1,h2]
  ·simp[hi]
 ·have:(i < k+1)↔i < k:=by omega
  simp[hik,this]
theorem fillK_no {ws:List Int} {a m n:Int} {k:Nat} (h:¬(a≤k∧(k:Int) - a < m)):fillK ws a m n (k+1)=fillK ws a m n k:=by
 apply List.ext_getElem?;intro i
 simp only[fillK,List.getElem?_mapIdx]
 by_cases hik:k=i
 ·subst hik;simp[h]
 ·have:(i < k+1)↔i < k:=by omega
  simp[this]
theorem J02 (ws:List Int) (a m n:Int):(fillW ws a m n).length=ws.length:=by simp[fillW]
theorem st_Fill_a {σ:Kx.St} {js jw:Nat} {ws:List Int} (h:Wd σ js jw ws) {a:Int} (h0:0≤a) (m n:Int) (hb:ws.length≤1000000) (ha:a≤1000000):FnG Tryz.prog 136 [.ref js 0 0,.v (.int .i64 a),.v (.int .i64 m),.v (.int .i64 n)] σ fun _ σ'=>σ'=σ.set jw (.obj 0 ((fillW ws a m n).map aInt)):=by
 refine Q2 Yc mixed rfl ?_
 simp only[Z08]
 push_cast (maxSteps:=999999) -implicitDefEqProofs (disch:=omega)[h0]
 refine Q0 (JL h.st) ?_
 rintro r σ' ⟨rfl,hs⟩
 rw[hs];clear hs
 push_cast (maxSteps:=999999) -implicitDefEqProofs (disch:=omega)
 refine Jq (α:=Nat) (I:=fun k ε σ1=>(ε 0=.ref js 0 0∧ε 1=.v (.int .i64 a)∧ε 2=.v (.int .i64 m)∧ε 3=.v (.int .i64 n)∧ε 19=.v (.int .i64 ws.length)∧ε 20=.v (.int .i64 k))∧k≤ws.length∧σ1=σ.set jw (.obj 0 ((fillK ws a m n k).map aInt)))
  (μ:=fun k=>ws.length - k) (Q:=fun ε σ1=>σ1=σ.set jw (.obj 0 ((fillW ws a m n).map aInt))) (x:=0) ?_ ?_ ?_
 ·refine ⟨by push_cast (maxSteps:=999999) -implicitDefEqProofs (disch:=omega),by omega,?_⟩
  rw[fillK_0,h.self]
 ·rintro k ε σ1 N E X' R' ⟨hρ,hk,rfl⟩ hN hE
  simp only[Q68]
  have hst:=Q4 (o:=Res.obj 0 ((fillK ws a m n k).map aInt)) h.ne.symm h.st
  have hwd:=Qa (o:=Res.obj 0 ((fillK ws a m n k).map aInt)) h.wd
  by_cases hlt:k < ws.length
  ·by_cases c1:a≤k
   ·by_cases c2:(k:Int) - a < m
    ·push_cast (maxSteps:=999999) -implicitDefEqProofs (disch:=omega)[hρ,c1,c2,h0,hst]
     refine Q6 rfl rfl hwd (by simp[fillK_len];omega) ?_
     rw[Ja,fillK_yes c1 c2]
     push_cast (maxSteps:=999999) -implicitDefEqProofs (disch:=omega)[hρ]
     exact hN (k+1) _ _ ⟨by push_cast (maxSteps:=999999) -implicitDefEqProofs (disch:=omega)[hρ],by omega,List.set_set ..⟩ (by omega)
    ·push_cast (maxSteps:=999999) -implicitDefEqProofs (disch:=omega)[hρ,c1,c2,h0]
     refine hN (k+1) _ _ ⟨by push_cast (maxSteps:=999999) -implicitDefEqProofs (disch:=omega)[hρ],by omega,?_⟩ (by omega)
     rw[fillK_no fun h=>c2 h.2]
   ·push_cast (maxSteps:=999999) -implicitDefEqProofs (disch:=omega)[hρ,c1,h0]
    refine hN (k+1) _ _ ⟨by push_cast (maxSteps:=999999) -implicitDefEqProofs (disch:=omega)[hρ],by omega,?_⟩ (by omega)
    rw[fillK_no fun h=>c1 h.1]
  ·push_cast (maxSteps:=999999) -implicitDefEqProofs (disch:=omega)[hρ]
   obtain rfl:k=ws.length:=by omega
   exact hE _ _ (by rw[fillK_end])
 ·rintro ε σ1 rfl
  push_cast (maxSteps:=999999) -implicitDefEqProofs (disch:=omega)
  exact trivial
theorem G4 (σ:Kx.St) (f:Fm) (own fn:Int):FnG Tryz.prog 274 [.agg (aFm f),.v (.int .i64 own),.v (.int .i64 fn)] σ fun a σ'=>a=.agg (aFm ⟨1,fn,0,f.regs,own,false,false,0,0,0,0,0⟩)∧σ'=σ:=by
 refine FnG.drop0 (fun a h=>by subst h;rfl) ?_
 refine Q2 X94 mixed rfl ?_
 simp only[ZW]
 have hb:fillA [.v (.int .i64 0),.v (.int .i64 0),.v (.int .i64 0),.v (.int .i64 0),.v (.int .i64 0),.v (.int .i64 0),.v (.int .i64 0),.v (.int .i64 0),.v (.int .i64 0),.v (.int .i64 0),.v (.int .i64 0),.v (.int .i64 0),.v (.bool false),.v (.bool false),.v (.int .i64 0),.v (.int .i64 0),.v (.int .i64 0),.v (.int .i64 0),.v (.int .i64 0)] [(0,1),(1,1),(3,8),(11,1)] [.v (.int .i64 1),.v (.int .i64 fn),.agg (aRg f.regs),.v (.int .i64 own)]=some (aFm ⟨1,fn,0,f.regs,own,false,false,0,0,0,0,0⟩):=by simp[fillA,AV.cells,Value.cells,setAtA,aFm,aRg,z8,aR1]
 have hs:∀f,setAtA [.v (.int .i64 0),.v (.int .i64 0),.v (.int .i64 0),.v (.int .i64 0),.v (.int .i64 0),.v (.int .i64 0),.v (.int .i64 0),.v (.int .i64 0),.v (.int .i64 0),.v (.int .i64 0),.v (.int .i64 0),.v (.int .i64 0),.v (.bool false),.v (.bool false),.v (.int .i64 0),.v (.int .i64 0),.v (.int .i64 0),.v (.int .i64 0),.v (.int .i64 0)] 0 (aFm f)=aFm f:=fun f=>Q07 rfl
 push_cast (maxSteps:=999999) -implicitDefEqProofs (disch:=omega)
 refine Q3 ?_
 push_cast (maxSteps:=999999) -implicitDefEqProofs (disch:=omega)
 refine Qb ?_
 push_cast (maxSteps:=999999) -implicitDefEqProofs (disch:=omega)[hb]
 refine Q8 (cs:=[.v (.int .i64 0),.v (.int .i64 0),.v (.int .i64 0),.v (.int .i64 0),.v (.int .i64 0),.v (.int .i64 0),.v (.int .i64 0),.v (.int .i64 0),.v (.int .i64 0),.v (.int .i64 0),.v (.int .i64 0),.v (.int .i64 0),.v (.bool false),.v (.bool false),.v (.int .i64 0),.v (.int .i64 0),.v (.int .i64 0),.v (.int .i64 0),.v (.int .i64 0)]) (Q03 _) (Y36 _) (Qc _ _) (by simp) ?_
 rw[hs,Qq]
 push_cast (maxSteps:=999999) -implicitDefEqProofs (disch:=omega)[Qc]
 exact ⟨_,rfl⟩
theorem frame_Loop_a (σ:Kx.St) (f:Fm) (own fn sr:Int):FnG Tryz.prog 275 [.agg (aFm f),.v (.int .i64 own),.v (.int .i64 fn),.v (.int .i64 sr)] σ fun a σ'=>a=.agg (aFm ⟨3,fn,0,f.regs,own,false,false,0,0,0,0,sr⟩)∧σ'=σ:=by
 refine FnG.drop0 (fun a h=>by subst h;rfl) ?_
 refine Q2 YZ mixed rfl ?_
 simp only[Z43]
 have hb:fillA [.v (.int .i64 0),.v (.int .i64 0),.v (.int .i64 0),.v (.int .i64 0),.v (.int .i64 0),.v (.int .i64 0),.v (.int .i64 0),.v (.int .i64 0),.v (.int .i64 0),.v (.int .i64 0),.v (.int .i64 0),.v (.int .i64 0),.v (.bool false),.v (.bool false),.v (.int .i64 0),.v (.int .i64 0),.v (.int .i64 0),.v (.int .i64 0),.v (.int .i64 0)] [(0,1),(1,1),(3,8),(11,1),(18,1)] [.v (.int .i64 3),.v (.int .i64 fn),.agg (aRg f.regs),.v (.int .i64 own),.v (.int .i64 sr)]=some (aFm ⟨3,fn,0,f.regs,own,false,false,0,0,0,0,sr⟩):=by simp[fillA,AV.cells,Value.cells,setAtA,aFm,aRg,z8,aR1]
 have hs:∀f,setAtA [.v (.int .i64 0),.v (.int .i64 0),.v (.int .i64 0),.v (.int .i64 0),.v (.int .i64 0),.v (.int .i64 0),.v (.int .i64 0),.v (.int .i64 0),.v (.int .i64 0),.v (.int .i64 0),.v (.int .i64 0),.v (.int .i64 0),.v (.bool false),.v (.bool false),.v (.int .i64 0),.v (.int .i64 0),.v (.int .i64 0),.v (.int .i64 0),.v (.int .i64 0)] 0 (aFm f)=aFm f:=fun f=>Q07 rfl
 push_cast (maxSteps:=999999) -implicitDefEqProofs (disch:=omega)
 refine Q3 ?_
 push_cast (maxSteps:=999999) -implicitDefEqProofs (disch:=omega)
 refine Qb ?_
 push_cast (maxSteps:=999999) -implicitDefEqProofs (disch:=omega)[hb]
 refine Q8 (cs:=[.v (.int .i64 0),.v (.int .i64 0),.v (.int .i64 0),.v (.int .i64 0),.v (.int .i64 0),.v (.int .i64 0),.v (.int .i64 0),.v (.int .i64 0),.v (.int .i64 0),.v (.int .i64 0),.v (.int .i64 0),.v (.int .i64 0),.v (.bool false),.v (.bool false),.v (.int .i64 0),.v (.int .i64 0),.v (.int .i64 0),.v (.int .i64 0),.v (.int .i64 0)]) (Q03 _) (Y36 _) (Qc _ _) (by simp) ?_
 rw[hs,Qq]
 push_cast (maxSteps:=999999) -implicitDefEqProofs (disch:=omega)[Qc]
 exact ⟨_,rfl⟩
theorem frame_Iter_a (σ:Kx.St) (f:Fm) (own:Int):FnG Tryz.prog 255 [.agg (aFm f),.v (.int .i64 own)] σ fun a σ'=>a=.agg (aFm ⟨2,f.fn,0,f.regs,own,false,false,f.started,0,0,0,0⟩)∧σ'=σ:=by
 refine FnG.drop0 (fun a h=>by subst h;rfl) ?_
 refine Q2 YY mixed rfl ?_
 simp only[Z42]
 have hb:fillA [.v (.int .i64 0),.v (.int .i64 0),.v (.int .i64 0),.v (.int .i64 0),.v (.int .i64 0),.v (.int .i64 0),.v (.int .i64 0),.v (.int .i64 0),.v (.int .i64 0),.v (.int .i64 0),.v (.int .i64 0),.v (.int .i64 0),.v (.bool false),.v (.bool false),.v (.int .i64 0),.v (.int .i64 0),.v (.int .i64 0),.v (.int .i64 0),.v (.int .i64 0)] [(0,1),(1,1),(3,8),(11,1),(14,1)] [.v (.int .i64 2),.v (.int .i64 f.fn),.agg (aRg f.regs),.v (.int .i64 own),.v (.int .i64 f.started)]=some (aFm ⟨2,f.fn,0,f.regs,own,false,false,f.started,0,0,0,0⟩):=by simp[fillA,AV.cells,Value.cells,setAtA,aFm,aRg,z8,aR1]
 have hs:∀f,setAtA [.v (.int .i64 0),.v (.int .i64 0),.v (.int .i64 0),.v (.int .i64 0),.v (.int .i64 0),.v (.int .i64 0),.v (.int .i64 0),.v (.int .i64 0),.v (.int .i64 0),.v (.int .i64 0),.v (.int .i64 0),.v (.int .i64 0),.v (.bool false),.v (.bool false),.v (.int .i64 0),.v (.int .i64 0),.v (.int .i64 0),.v (.int .i64 0),.v (.int .i64 0)] 0 (aFm f)=aFm f:=fun f=>Q07 rfl
 push_cast (maxSteps:=999999) -implicitDefEqProofs (disch:=omega)
 refine Q3 ?_
 push_cast (maxSteps:=999999) -implicitDefEqProofs (disch:=omega)
 refine Qb ?_
 push_cast (maxSteps:=999999) -implicitDefEqProofs (disch:=omega)[hb]
 refine Q8 (cs:=[.v (.int .i64 0),.v (.int .i64 0),.v (.int .i64 0),.v (.int .i64 0),.v (.int .i64 0),.v (.int .i64 0),.v (.int .i64 0),.v (.int .i64 0),.v (.int .i64 0),.v (.int .i64 0),.v (.int .i64 0),.v (.int .i64 0),.v (.bool false),.v (.bool false),.v (.int .i64 0),.v (.int .i64 0),.v (.int .i64 0),.v (.int .i64 0),.v (.int .i64 0)]) (Q03 _) (Y36 _) (Qc _ _) (by simp) ?_
 rw[hs,Qq]
 push_cast (maxSteps:=999999) -implicitDefEqProofs (disch:=omega)[Qc]
 exact ⟨_,rfl⟩
theorem frame_Root_a (σ:Kx.St):FnG Tryz.prog 88 [] σ fun a σ'=>a=.agg (aFm { fm0 with kind:=1 })∧σ'=σ:=by
 refine FnG.drop0 (fun a h=>by subst h;rfl) ?_
 refine Q2 K_frame_Root mixed rfl ?_
 simp only[Y69]
 have hb:fillA [.v (.int .i64 0),.v (.int .i64 0),.v (.int .i64 0),.v (.int .i64 0),.v (.int .i64 0),.v (.int .i64 0),.v (.int .i64 0),.v (.int .i64 0),.v (.int .i64 0),.v (.int .i64 0),.v (.int .i64 0),.v (.int .i64 0),.v (.bool false),.v (.bool false),.v (.int .i64 0),.v (.int .i64 0),.v (.int .i64 0),.v (.int .i64 0),.v (.int .i64 0)] [(0,1)] [.v (.int .i64 1)]=some (aFm { fm0 with kind:=1 }):=by simp[fillA,AV.cells,Value.cells,setAtA,aFm,aRg,z8,aR1,fm0]
 have hs:∀f,setAtA [.v (.int .i64 0),.v (.int .i64 0),.v (.int .i64 0),.v (.int .i64 0),.v (.int .i64 0),.v (.int .i64 0),.v (.int .i64 0),.v (.int .i64 0),.v (.int .i64 0),.v (.int .i64 0),.v (.int .i64 0),.v (.int .i64 0),.v (.bool false),.v (.bool false),.v (.int .i64 0),.v (.int .i64 0),.v (.int .i64 0),.v (.int .i64 0),.v (.int .i64 0)] 0 (aFm f)=aFm f:=fun f=>Q07 rfl
 push_cast (maxSteps:=999999) -implicitDefEqProofs (disch:=omega)
 refine Qb ?_
 push_cast (maxSteps:=999999) -implicitDefEqProofs (disch:=omega)[hb]
 refine Q8 (cs:=[.v (.int .i64 0),.v (.int .i64 0),.v (.int .i64 0),.v (.int .i64 0),.v (.int .i64 0),.v (.int .i64 0),.v (.int .i64 0),.v (.int .i64 0),.v (.int .i64 0),.v (.int .i64 0),.v (.int .i64 0),.v (.int .i64 0),.v (.bool false),.v (.bool false),.v (.int .i64 0),.v (.int .i64 0),.v (.int .i64 0),.v (.int .i64 0),.v (.int .i64 0)]) (Q03 _) (Y36 _) (Qc _ _) (by simp) ?_
 rw[hs,Qq]
 push_cast (maxSteps:=999999) -implicitDefEqProofs (disch:=omega)[Qc]
 exact ⟨_,rfl⟩
end Go.Proofs.YtelibaobkcokdaaGreat.Mx
