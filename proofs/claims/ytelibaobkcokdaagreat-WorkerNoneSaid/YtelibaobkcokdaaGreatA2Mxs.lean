/- WorkerNone: the walk. -/
import Derived.Test.YtelibaobkcokdaaGreatA2M5
namespace Go.Proofs.YtelibaobkcokdaaGreat.Mx
set_option linter.unusedVariables false
set_option linter.unusedSimpArgs false
open Go Go.Kx Go.Proofs Go.Proofs.YtelibaobkcokdaaGreat
set_option maxRecDepth 8000
theorem Xi (σ:Kx.St):FnG Tryz.prog 46 [.v (.pointer none)] σ fun a σ'=>a=.tup [.v (.int .i64 0),.v (.int .i64 0)]∧σ'=σ:=by
 refine Q2 ZF mixed rfl ?_
 simp only[Q13]
 push_cast (maxSteps:=999999) -implicitDefEqProofs (disch:=omega)
 first|exact trivial|exact ⟨rfl,rfl⟩|exact rfl
theorem Y04 (id:Int) (σ:Kx.St):FnG Tryz.prog 13 [.v (.pointer none),.v (.int .i64 id)] σ fun _ σ'=>σ'=σ:=by
 refine Q2 QQ mixed rfl ?_
 simp only[QB]
 push_cast (maxSteps:=999999) -implicitDefEqProofs (disch:=omega)
 first|exact trivial|exact rfl
theorem Y73 (v:Int) (σ:Kx.St):FnG Tryz.prog 14 [.v (.pointer none),.v (.pointer none),.v (.int .i64 v)] σ fun _ σ'=>σ'=σ:=by
 refine Q2 QU mixed rfl ?_
 simp only[QG]
 push_cast (maxSteps:=999999) -implicitDefEqProofs (disch:=omega)
 refine Q0 (Xi σ) ?_
 rintro a σ' ⟨rfl,hs⟩
 rw[hs];clear hs σ'
 push_cast (maxSteps:=999999) -implicitDefEqProofs (disch:=omega)
 first|exact trivial|exact rfl
theorem Y05 (j:Nat) (v:Int) (σ:Kx.St):FnG Tryz.prog 14 [.ref j 0 0,.v (.pointer none),.v (.int .i64 v)] σ fun _ σ'=>σ'=σ:=by
 refine Q2 QU mixed rfl ?_
 simp only[QG]
 push_cast (maxSteps:=999999) -implicitDefEqProofs (disch:=omega)
 refine Q0 (Xi σ) ?_
 rintro a σ' ⟨rfl,hs⟩
 rw[hs];clear hs σ'
 push_cast (maxSteps:=999999) -implicitDefEqProofs (disch:=omega)
 first|exact trivial|exact rfl
def aV4 (a b c d:Int):List AV:=[.v (.int .i64 a),.v (.int .i64 b),.v (.int .i64 c),.v (.int .i64 d)]
theorem Y74 (σ:Kx.St):FnG Tryz.prog 16 [.v (.pointer none)] σ fun a σ'=>a=.agg (aV4 0 0 0 0)∧σ'=σ:=by
 refine FnG.drop0 (fun a ha=>by subst ha;rfl) ?_
 refine Q2 QV mixed rfl ?_
 simp only[QH]
 have hb:fillA [AV.v (.int .i64 0),AV.v (.int .i64 0),AV.v (.int .i64 0),AV.v (.int .i64 0)] [] []=some (aV4 0 0 0 0):=rfl
 have hz:∀l:List AV,l.length=4→setAtA [AV.v (.int .i64 0),AV.v (.int .i64 0),AV.v (.int .i64 0),AV.v (.int .i64 0)] 0 l=l:=fun l hl=>QR (by rw[hl];rfl)
 have c4:cellsA (some 4) (aV4 0 0 0 0)=some (.agg (aV4 0 0 0 0)):=rfl
 push_cast (maxSteps:=999999) -implicitDefEqProofs (disch:=omega)
 refine Qb ?_
 push_cast (maxSteps:=999999) -implicitDefEqProofs (disch:=omega)[hb]
 refine Q8 (cs:=[AV.v (.int .i64 0),AV.v (.int .i64 0),AV.v (.int .i64 0),AV.v (.int .i64 0)]) (l:=aV4 0 0 0 0) rfl rfl (Qc _ _) (Nat.le_refl 4) ?_
 rw[hz _ rfl,Qu]
 push_cast (maxSteps:=999999) -implicitDefEqProofs (disch:=omega)[Qc,c4]
 exact ⟨_,rfl⟩
theorem X81 {pl:Pl} {k j:Nat} {w:Wk} {σ:Kx.St} (hw:σ[j]?=some (.obj 0 (aWk pl k w))):FnG Tryz.prog 16 [.ref j 0 0] σ fun a σ'=>a=.agg (aVw w)∧σ'=σ:=by
 refine FnG.drop0 (fun a ha=>by subst ha;rfl) ?_
 refine Q2 QV mixed rfl ?_
 simp only[QH]
 have g1:(aWk pl k w)[1]?=some (.v (.int .i64 w.state)):=rfl
 have g2:(aWk pl k w)[2]?=some (.v (.int .i64 w.holds)):=rfl
 have g3:(aWk pl k w)[3]?=some (.v (.int .i64 w.tail)):=rfl
 have g4:(aWk pl k w)[4]?=some (.v (.int .i64 w.probed)):=rfl
 have hw':∀ρ:Kx.St,(σ++ρ)[j]?=_:=fun ρ=>Qk hw
 have hz:∀l:List AV,l.length=4→setAtA [AV.v (.int .i64 0),AV.v (.int .i64 0),AV.v (.int .i64 0),AV.v (.int .i64 0)] 0 l=l:=fun l hl=>QR (by rw[hl];rfl)
 have hb:fillA [AV.v (.int .i64 0),AV.v (.int .i64 0),AV.v (.int .i64 0),AV.v (.int .i64 0)] [(0,1),(1,1),(2,1),(3,1)] [.v (.int .i64 w.state),.v (.int .i64 w.holds),.v (.int .i64 w.tail),.v (.int .i64 w.probed)]=some (aVw w):=by simp[fillA,AV.cells,Value.cells,setAtA,aVw]
 have c4:cellsA (some 4) (aVw w)=some (.agg (aVw w)):=rfl
 push_cast (maxSteps:=999999) -implicitDefEqProofs (disch:=omega)
 refine Qb ?_
 push_cast (maxSteps:=999999) -implicitDefEqProofs (disch:=omega)[hw',g1,g2,g3,g4,hb]
 refine Q8 (cs:=[AV.v (.int .i64 0),AV.v (.int .i64 0),AV.v (.int .i64 0),AV.v (.int .i64 0)]) (l:=aVw w) rfl rfl (Qc _ _) (Nat.le_refl 4) ?_
 rw[hz _ rfl,Qu]
 push_cast (maxSteps:=999999) -implicitDefEqProofs (disch:=omega)[Qc,c4]
 exact ⟨_,rfl⟩
theorem JV {pl:Pl} {k j:Nat} {w:Wk} {σ:Kx.St} (hw:σ[j]?=some (.obj 0 (aWk pl k w))) (id:Int):FnG Tryz.prog 49 [.ref j 0 0,.v (.int .i64 id)] σ fun _ σ'=>σ'=σ.set j (.obj 0 (aWk pl k (w.runs id))):=by
 refine Q2 Q66 mixed rfl ?_
 simp only[QW]
 have s2:(aWk pl k w).set 2 (.v (.int .i64 id))=aWk pl k { w with holds:=id }:=rfl
 have s1:(aWk pl k { w with holds:=id }).set 1 (.v (.int .i64 4))=aWk pl k (w.runs id):=rfl
 push_cast (maxSteps:=999999) -implicitDefEqProofs (disch:=omega)
 refine Q6 rfl rfl hw (show 2 < 20 from by omega) ?_
 rw[s2]
 push_cast (maxSteps:=999999) -implicitDefEqProofs (disch:=omega)
 refine Q6 rfl rfl (Q9 hw) (show 1 < 20 from by omega) ?_
 rw[s1,List.set_set]
 push_cast (maxSteps:=999999) -implicitDefEqProofs (disch:=omega)
 first|exact trivial|exact rfl
theorem Y89 {pl:Pl} {k j:Nat} {w:Wk} {σ:Kx.St} (hw:σ[j]?=some (.obj 0 (aWk pl k w))) (id:Int):FnG Tryz.prog 13 [.ref j 0 0,.v (.int .i64 id)] σ fun _ σ'=>σ'=σ.set j (.obj 0 (aWk pl k (w.runs id))):=by
 refine Q2 QQ mixed rfl ?_
 simp only[QB]
 push_cast (maxSteps:=999999) -implicitDefEqProofs (disch:=omega)
 refine Q0 (JV hw id) ?_
 rintro a σ1 rfl
 push_cast (maxSteps:=999999) -implicitDefEqProofs (disch:=omega)
 first|exact trivial|exact rfl
def two:List (List Ix):=[[⟨1,1,7,0⟩,⟨20,1,0,0⟩,⟨0,0,0,0⟩],[⟨17,1,0,0⟩,⟨0,0,0,0⟩]]
def q2:Pm:=⟨1,1,3,4,2,false,false,two⟩
theorem two_ok:okF two:=⟨by decide,by decide⟩
theorem two_core:coreE 0 two [] q2=0:=by decide +kernel
def xs2:Nat→WC
 | 0=>((wkNew 0).runs 1,mk0 q2 0 [])
 | n+1=>wkStep q2 (xs2 n) 0
theorem xs2_end:(xs2 60).2.status=1∧(xs2 60).2.out=[7]∧(xs2 60).1.state=4:=by decide +kernel
theorem law26_two_a:FnP Tryz.prog 45 [] fun a=>a=.agg (Go.Proofs.YtelibaobkcokdaaGreat.aPr 0 two):=by
 refine Qf X80 mixed rfl rfl ?_
 simp only[ZV]
 have b3:∀a b c:Int,fillA [AV.v (.int .i64 0),AV.v (.int .i64 0),AV.v (.int .i64 0),AV.v (.int .i64 0)] [(0,1),(1,1),(2,1)] [.v (.int .i64 a),.v (.int .i64 b),.v (.int .i64 c)]=some (aIx ⟨a,b,c,0⟩):=fun _ _ _=>rfl
 have b2:∀a b:Int,fillA [AV.v (.int .i64 0),AV.v (.int .i64 0),AV.v (.int .i64 0),AV.v (.int .i64 0)] [(0,1),(1,1)] [.v (.int .i64 a),.v (.int .i64 b)]=some (aIx ⟨a,b,0,0⟩):=fun _ _=>rfl
 have b1:∀a:Int,fillA [AV.v (.int .i64 0),AV.v (.int .i64 0),AV.v (.int .i64 0),AV.v (.int .i64 0)] [(0,1)] [.v (.int .i64 a)]=some (aIx ⟨a,0,0,0⟩):=fun _=>rfl
 have hx:∀x:Ix,(AV.agg (aIx x)).cells=aIx x:=fun _=>rfl
 push_cast (maxSteps:=999999) -implicitDefEqProofs (disch:=omega)
 refine Qb ?_
 push_cast (maxSteps:=999999) -implicitDefEqProofs (disch:=omega)[b3,b2,b1]
 refine ZX (sz:=4) (by intro a ha;simp at ha;rcases ha with rfl|rfl|rfl<;>rfl) (by simp) ?_
 push_cast (maxSteps:=999999) -implicitDefEqProofs (disch:=omega)[b3,b2,b1,hx]
 refine ZX (sz:=4) (by intro a ha;simp at ha;rcases ha with rfl|rfl<;>rfl) (by simp) ?_
 push_cast (maxSteps:=999999) -implicitDefEqProofs (disch:=omega)[b3,b2,b1,hx]
 refine ZX (sz:=1) (by intro a ha;simp at ha;rcases ha with rfl|rfl<;>rfl) (by simp) ?_
 have hb:∀a b:AV,fillA [AV.v (.int .i64 0),.sl 0 [] .nil] [(1,1)] [.sl 2 [a,b] .full]=some [.v (.int .i64 0),.sl 2 [a,b] .full]:=fun _ _=>rfl
 push_cast (maxSteps:=999999) -implicitDefEqProofs (disch:=omega)[AV.cells,hb]
 refine Q8 (cs:=[AV.v (.int .i64 0),.sl 0 [] .nil]) rfl rfl rfl (by decide) ?_
 have c2:∀a b:AV,cellsA (some 2) [AV.v (.int .i64 0),.sl 2 [a,b] .full]=some (.agg [AV.v (.int .i64 0),.sl 2 [a,b] .full]):=fun _ _=>rfl
 push_cast (maxSteps:=999999) -implicitDefEqProofs (disch:=omega)[c2]
 exact ⟨[],rfl,rfl⟩
structure XOk (x:WC) (n:Nat):Prop where
 wk:WkOk x.1
 fr:Fr2 x.2
 hl:x.2.held.length≤1000000
 lg:x.2.log.length≤2 * n
 bk:x.2.back.length≤n
theorem XOk.step {x:WC} {n:Nat} (h:XOk x n) (q:Pm) (v:Int):XOk (wkStep q x v) (n+1):=by
 obtain ⟨g,k⟩:=g_wkStep (q:=q) (x:=x) h.wk v
 exact ⟨k,g.fr h.hl h.fr,by rw[g.hl];exact h.hl,by have:=g.lg;have:=h.lg;omega,by have:=g.bk;have:=h.bk;omega⟩
theorem xs2_ok:∀n,XOk (xs2 n) n:=by
 intro n
 induction n with
 | zero=>
  have hq:q2.Ok:=by unfold Pm.Ok q2;decide
  have h:=mkM_ok hq 0 []
  exact ⟨Qw _ _,h.fr,h.hl,h.lg,h.bk⟩
 | succ n ih=>exact ih.step q2 0
end Go.Proofs.YtelibaobkcokdaaGreat.Mx
