/- Programs: great ones, and their own copies: the walks. -/
import Derived.Test.YtelibaobkcokdaaGreatQPra
import Derived.Test.YtelibaobkcokdaaGreatQCb
namespace Go.Proofs.YtelibaobkcokdaaGreat
set_option linter.unusedVariables false
set_option linter.unusedSimpArgs false
open Go Go.Kx Go.Proofs
def Q50:SCode:=
 .seq (.seq (.reg (straight [⟨some 8,none,.pur .mov [.tmp 4]⟩,⟨some 9,none,.pur (.fla 1) [.tmp 1]⟩,⟨some 10,none,.ld none (.tmp 9)⟩,⟨some 11,none,.pur (.len false) [.tmp 10]⟩,⟨some 12,none,.pur (.bin .lss) [.tmp 8,.tmp 11]⟩]) [12])
 (.cond (.tmp 12) (.skip) (.exit 0)))
 (.seq (.block 1 (.reg (.run ⟨some 15,none,.pur (.fla 1) [.tmp 3]⟩ (.run ⟨some 16,none,.ld none (.tmp 15)⟩ (.run ⟨some 18,none,.pur (.fla 1) [.tmp 1]⟩ (.run ⟨some 19,none,.ld none (.tmp 18)⟩ (.run ⟨some 20,none,.pur .mov [.tmp 4]⟩ (.run ⟨some 21,none,.pur (.ixa 1) [.tmp 19,.tmp 20]⟩ (.run ⟨some 22,none,.ld none (.tmp 21)⟩ (.eff ⟨some 17,none,.eff (.bsl 126 4) []⟩ [] (.eff ⟨some 23,none,.eff (.app 126 4 32 [.int .i64 0,.int .i64 0,.int .i64 0,.int .i64 0]) [.tmp 17,.tmp 22]⟩ [⟨some 16,none,.ld none (.tmp 15)⟩] (.eff ⟨some 24,none,.eff (.bsl 106 1) [.tmp 23]⟩ [⟨some 16,none,.ld none (.tmp 15)⟩] (.eff ⟨some 25,none,.eff (.app 106 1 24 [.slice none 0 0]) [.tmp 16,.tmp 24]⟩ [] (.run ⟨some 26,none,.pur (.fla 1) [.tmp 3]⟩ (.eff ⟨none,none,.eff (.st 1) [.tmp 26,.tmp 25]⟩ [] .done))))))))))))) []))
 (.reg (straight [⟨some 13,none,.pur .mov [.tmp 4]⟩,⟨some 14,none,.pur (.bin .add) [.tmp 13,.const (.int .i64 1)]⟩,⟨some 4,none,.pur .mov [.tmp 14]⟩]) [4]))
def ZH:Fun:=⟨28,[2,0,1,4,12,3],[.cell 2 (some 2)],
 .seq (.reg (straight [⟨some 1,none,.eff (.box 33) [.tmp 0]⟩,⟨some 2,none,.eff (.new 33 [.int .i64 0,.slice none 0 0]) []⟩]) [1,2])
 (.seq (.reg (straight [⟨some 5,none,.pur (.fla 0) [.tmp 1]⟩,⟨some 6,none,.ld none (.tmp 5)⟩,⟨some 7,none,.pur (.bld [.int .i64 0,.slice none 0 0] [(0,1)]) [.tmp 6]⟩,⟨some 3,none,.eff (.new 33 [.int .i64 0,.slice none 0 0]) []⟩,⟨none,none,.eff (.st 2) [.tmp 3,.tmp 7]⟩]) [3])
 (.seq (.seq (.reg (straight [⟨some 4,none,.pur .mov [.const (.int .i64 0)]⟩]) [4])
 (.block 0 (.loop Q50)))
 (.seq (.reg (straight [⟨some 27,none,.ld (some 2) (.tmp 3)⟩,⟨none,none,.eff (.st 2) [.tmp 2,.tmp 27]⟩]) [])
 (.ret))))⟩
theorem X73:(compF Tryz.prog 20).map Fun.slim=some ZH:=by kernel_rfl
set_option maxHeartbeats 8000000 in
theorem law04_Own_a (m:Int) (fs:List (List Ix)) (hf:okF fs):FnP Tryz.prog 20 [.agg (aPr m fs)] fun a=>a=.agg (aPr m fs):=by
 refine ⟨by simp[AV.pureL,AV.pure,Y76],FnG.fz ?_⟩
 refine fnG_in2 X73 mixed rfl ?_
 simp only[ZH]
 obtain ⟨hf1,hf2⟩:=hf
 have hac:(AV.agg (aPr m fs)).cells=aPr m fs:=rfl
 have g0:(aPr m fs)[0]?=some (.v (.int .i64 m)):=rfl
 have g1:(aPr m fs)[1]?=some (.sl fs.length (fs.map aIxs) .none):=rfl
 have hb:fillA [AV.v (.int .i64 0),AV.sl 0 [] .nil] [(0,1)] [AV.v (.int .i64 m)]=some [AV.v (.int .i64 m),AV.sl 0 [] .nil]:=by simp[fillA,AV.cells,Value.cells,setAtA]
 refine Qh (fun ε σ=>(ε 1=.ref 0 0 0∧ε 2=.ref 1 0 0)∧σ=[.obj 0 (aPr m fs),.obj 0 [.v (.int .i64 0),.sl 0 [] .nil]]) ?_ ?_
 ·intro N X R hN
  push_cast (disch:=omega)
  refine Qs ?_
  push_cast (disch:=omega)[hac]
  refine Qb ?_
  push_cast (disch:=omega)
  exact hN _ _ (by push_cast (disch:=omega))
 rintro ε σ ⟨hρ,rfl⟩
 refine Qh (fun ε σ=>(ε 1=.ref 0 0 0∧ε 2=.ref 1 0 0∧ε 3=.ref 2 0 0)∧σ=[.obj 0 (aPr m fs),.obj 0 [.v (.int .i64 0),.sl 0 [] .nil],.obj 0 [.v (.int .i64 m),.sl 0 [] .nil]]) ?_ ?_
 ·intro N X R hN
  push_cast (disch:=omega)[hρ,g0,hb]
  refine Qb ?_
  push_cast (disch:=omega)
  refine Q3 (cs:=[AV.v (.int .i64 0),AV.sl 0 [] .nil]) rfl rfl rfl (by decide) ?_
  have hset:setAtA [AV.v (.int .i64 0),AV.sl 0 [] .nil] 0 [AV.v (.int .i64 m),AV.sl 0 [] .nil]=[AV.v (.int .i64 m),AV.sl 0 [] .nil]:=rfl
  rw[hset]
  push_cast (disch:=omega)
  exact hN _ _ (by push_cast (disch:=omega)[hρ])
 clear hρ ε
 rintro ε σ ⟨hρ,rfl⟩
 refine Qh (fun ε σ=>(ε 2=.ref 1 0 0∧ε 3=.ref 2 0 0)∧∃w,σ=[.obj 0 (aPr m fs),.obj 0 [.v (.int .i64 0),.sl 0 [] .nil],.obj 0 [.v (.int .i64 m),.sl fs.length (fs.map aIxs) (.id 3 w 1)],.tail w]) ?_ ?_
 ·intro N X R hN
  push_cast (disch:=omega)[hρ]
  refine Y74 (GU.tokO (i:=2) (j:=1) 1 rfl rfl) (α:=Nat) (I:=fun k ε σ=>(ε 1=.ref 0 0 0∧ε 2=.ref 1 0 0∧ε 3=.ref 2 0 0∧ε 4=.v (.int .i64 k))∧k≤fs.length∧∃w,σ=[.obj 0 (aPr m fs),.obj 0 [.v (.int .i64 0),.sl 0 [] .nil],.obj 0 [.v (.int .i64 m),.sl k ((fs.take k).map aIxs) (.id 3 w 1)],.tail w])
   (μ:=fun k=>fs.length - k) (Q:=fun ε σ=>(ε 2=.ref 1 0 0∧ε 3=.ref 2 0 0)∧∃w,σ=[.obj 0 (aPr m fs),.obj 0 [.v (.int .i64 0),.sl 0 [] .nil],.obj 0 [.v (.int .i64 m),.sl fs.length (fs.map aIxs) (.id 3 w 1)],.tail w]) (x:=0) ?_ ?_ hN
  ·push_cast (disch:=omega)[hρ]
   exact ⟨by omega,0,rfl⟩
  ·clear hN N X R hρ ε
   rintro k ε σ N E X R ⟨hρ,hk,w,rfl⟩ hN hE
   simp only[Q50]
   by_cases hlt:k < fs.length
   ·obtain ⟨l,hl⟩:=Q58 hlt
    have hll:=hf2 l (List.mem_of_getElem? hl)
    have hIL:aIxs l=.sl l.length (l.flatMap aIx) .none:=rfl
    have hfl:=Q24 J2 l
    have hex:(AV.sl k ((fs.take k).map aIxs) (.id 3 w 1)).exact=true:=rfl
    have hlk:(fs.take k).length=k:=by rw[List.length_take];omega
    push_cast (disch:=omega)[hρ,g1,hl]
    refine QN (sz:=4) (by intro a ha;simp at ha) (by simp) ?_
    push_cast (disch:=omega)[hIL]
    refine QO (m:=l.length) rfl rfl hfl (by rw[List.all_flatMap];simp only[show ∀x,(aIx x).all AV.one=true from fun x=>rfl];simp) rfl (by omega) (by omega) ?_
    push_cast (disch:=omega)[hρ]
    refine ⟨Qz (by push_cast (disch:=omega)[hρ,hex]),?_⟩
    refine QN (sz:=1) (by intro a ha;simp at ha;subst ha;rfl) (by simp) ?_
    push_cast (disch:=omega)
    refine ⟨Qz (by push_cast (disch:=omega)[hρ,hex]),?_⟩
    refine YF (m:=1) rfl rfl rfl rfl (by simp;omega) (by omega) (by omega) rfl ?_
    push_cast (disch:=omega)[hρ]
    refine Q5 rfl rfl rfl (by simp) ?_
    push_cast (disch:=omega)[hρ]
    refine hN (k+1) _ _ ⟨by push_cast (disch:=omega)[hρ],by omega,w+1,?_⟩ (by omega)
    rw[Qu hl]
    simp[AV.cells,aIxs,aSlN]
   ·push_cast (disch:=omega)[hρ,g1]
    obtain rfl:k=fs.length:=by omega
    rw[List.take_length]
    exact hE _ _ ⟨by push_cast (disch:=omega)[hρ],w,rfl⟩
 clear hρ ε
 rintro ε σ ⟨hρ,w,rfl⟩
 have hc2:cellsA (some 2) [AV.v (.int .i64 m),.sl fs.length (fs.map aIxs) (.id 3 w 1)]=some (.agg [AV.v (.int .i64 m),.sl fs.length (fs.map aIxs) (.id 3 w 1)]):=rfl
 push_cast (disch:=omega)[hρ,hc2]
 refine Q3 (cs:=[AV.v (.int .i64 0),AV.sl 0 [] .nil]) rfl rfl rfl (by decide) ?_
 have hset:setAtA [AV.v (.int .i64 0),AV.sl 0 [] .nil] 0 [AV.v (.int .i64 m),.sl fs.length (fs.map aIxs) (.id 3 w 1)]=[AV.v (.int .i64 m),.sl fs.length (fs.map aIxs) (.id 3 w 1)]:=rfl
 rw[hset]
 push_cast (disch:=omega)[hρ,hc2]
 have hr:∀σ,(AV.agg [AV.v (.int .i64 m),.sl fs.length (fs.map aIxs) (.id 3 w 1)]).res σ=.agg (aPr m fs):=fun σ=>by
  have h1:=aFs_res σ fs (.id 3 w 1)
  simp only[AV.res,AV.resL] at h1 ⊢
  rw[h1]
  rfl
 refine ⟨[],?_,?_⟩
 ·rw[hr];simp[AV.pure,Y76]
 ·rw[hr]
end Go.Proofs.YtelibaobkcokdaaGreat
