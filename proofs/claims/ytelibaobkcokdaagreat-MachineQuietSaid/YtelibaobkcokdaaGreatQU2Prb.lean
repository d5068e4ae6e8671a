/- Programs: great ones, and their own copies: the walks. -/
import Derived.Test.YtelibaobkcokdaaGreatQU2Pra
import Derived.Test.YtelibaobkcokdaaGreatQU2Cb
namespace Go.Proofs.YtelibaobkcokdaaGreat
set_option linter.unusedVariables false
set_option linter.unusedSimpArgs false
open Go Go.Kx Go.Proofs
def Q58:SCode:=
 .seq (.seq (.reg (straight [⟨some 8,none,.pur .mov [.tmp 4]⟩,⟨some 9,none,.pur (.fla 1) [.tmp 1]⟩,⟨some 10,none,.ld none (.tmp 9)⟩,⟨some 11,none,.pur (.len false) [.tmp 10]⟩,⟨some 12,none,.pur (.bin .lss) [.tmp 8,.tmp 11]⟩]) [12])
 (.cond (.tmp 12) (.skip) (.exit 0)))
 (.seq (.block 1 (.reg (.run ⟨some 15,none,.pur (.fla 1) [.tmp 3]⟩ (.run ⟨some 16,none,.ld none (.tmp 15)⟩ (.run ⟨some 18,none,.pur (.fla 1) [.tmp 1]⟩ (.run ⟨some 19,none,.ld none (.tmp 18)⟩ (.run ⟨some 20,none,.pur .mov [.tmp 4]⟩ (.run ⟨some 21,none,.pur (.ixa 1) [.tmp 19,.tmp 20]⟩ (.run ⟨some 22,none,.ld none (.tmp 21)⟩ (.eff ⟨some 17,none,.eff (.bsl 126 4) []⟩ [] (.eff ⟨some 23,none,.eff (.app 126 4 32 [.int .i64 0,.int .i64 0,.int .i64 0,.int .i64 0]) [.tmp 17,.tmp 22]⟩ [⟨some 16,none,.ld none (.tmp 15)⟩] (.eff ⟨some 24,none,.eff (.bsl 106 1) [.tmp 23]⟩ [⟨some 16,none,.ld none (.tmp 15)⟩] (.eff ⟨some 25,none,.eff (.app 106 1 24 [.slice none 0 0]) [.tmp 16,.tmp 24]⟩ [] (.run ⟨some 26,none,.pur (.fla 1) [.tmp 3]⟩ (.eff ⟨none,none,.eff (.st 1) [.tmp 26,.tmp 25]⟩ [] .done))))))))))))) []))
 (.reg (straight [⟨some 13,none,.pur .mov [.tmp 4]⟩,⟨some 14,none,.pur (.bin .add) [.tmp 13,.const (.int .i64 1)]⟩,⟨some 4,none,.pur .mov [.tmp 14]⟩]) [4]))
def Z00:Fun:=⟨28,[2,0,1,4,12,3],[.cell 2 (some 2)],
 .seq (.reg (straight [⟨some 1,none,.eff (.box 33) [.tmp 0]⟩,⟨some 2,none,.eff (.new 33 [.int .i64 0,.slice none 0 0]) []⟩]) [1,2])
 (.seq (.reg (straight [⟨some 5,none,.pur (.fla 0) [.tmp 1]⟩,⟨some 6,none,.ld none (.tmp 5)⟩,⟨some 7,none,.pur (.bld [.int .i64 0,.slice none 0 0] [(0,1)]) [.tmp 6]⟩,⟨some 3,none,.eff (.new 33 [.int .i64 0,.slice none 0 0]) []⟩,⟨none,none,.eff (.st 2) [.tmp 3,.tmp 7]⟩]) [3])
 (.seq (.seq (.reg (straight [⟨some 4,none,.pur .mov [.const (.int .i64 0)]⟩]) [4])
 (.block 0 (.loop Q58)))
 (.seq (.reg (straight [⟨some 27,none,.ld (some 2) (.tmp 3)⟩,⟨none,none,.eff (.st 2) [.tmp 2,.tmp 27]⟩]) [])
 (.ret))))⟩
theorem X98:(compF Tryz.prog 20).map Fun.slim=some Z00:=by kernel_rfl
set_option maxHeartbeats 8000000 in
theorem Gc (m:Int) (fs:List (List Ix)) (hl:fs.length≤9223372036854775807):FnP Tryz.prog 54 [.agg (aPr m fs)] fun a=>∃b,a=aBool b∧(b=false→okF fs):=by
 refine Qg X63 mixed rfl (by simp[AV.pureL,AV.pure,Zz]) ?_
 simp only[Zq]
 have hac:(AV.agg (aPr m fs)).cells=aPr m fs:=rfl
 have g1:(aPr m fs)[1]?=some (.sl fs.length (fs.map aIxs) .none):=rfl
 push_cast (disch:=omega)
 refine Qn ?_
 by_cases h40:40 < fs.length
 ·push_cast (disch:=omega)[hac,g1,h40]
  exact ⟨[],rfl,true,rfl,by simp⟩
 push_cast (disch:=omega)[hac,g1,h40]
 refine Xd (α:=Nat) (I:=fun k ε σ=>(ε 1=.ref 0 0 0∧ε 3=.v (.int .i64 k))∧k≤fs.length∧σ[0]?=some (.obj 0 (aPr m fs))∧∀l∈fs.take k,l.length≤300)
  (μ:=fun k=>fs.length - k) (Q:=fun ε σ=>∀l∈fs,l.length≤300) (x:=0) ?_ ?_ ?_
 ·push_cast (disch:=omega)
  first|exact ⟨by omega,rfl,fun l hl=>by simp at hl⟩|exact ⟨by omega,fun l hl=>by simp at hl⟩|exact fun l hl=>by simp at hl
 ·rintro k ε σ N E ⟨hρ,hk,hs,hall⟩ hN hE
  simp only[Q37]
  by_cases hlt:k < fs.length
  ·obtain ⟨l,hl'⟩:=Q09 hlt
   have hIL:aIxs l=.sl l.length (l.flatMap aIx) .none:=rfl
   by_cases h300:300 < l.length
   ·push_cast (disch:=omega)[hρ,hs,g1,hl',hIL,h300]
    exact ⟨[],rfl,true,rfl,by simp⟩
   ·push_cast (disch:=omega)[hρ,hs,g1,hl',hIL,h300]
    refine hN (k+1) _ _ ⟨by push_cast (disch:=omega)[hρ],by omega,hs,fun x hx=>?_⟩ (by omega)
    rw[Qs hl'] at hx
    rcases List.mem_append.1 hx with hx|hx
    ·exact hall x hx
    ·simp at hx;subst hx;omega
  ·push_cast (disch:=omega)[hρ,hs,g1]
   refine hE _ _ ?_
   rw[List.take_of_length_le (by omega)] at hall
   exact hall
 ·intro ε σ hall
  push_cast (disch:=omega)
  exact ⟨[],rfl,false,rfl,fun _=>⟨by omega,hall⟩⟩
set_option maxHeartbeats 8000000 in
theorem J16 (m:Int) (fs:List (List Ix)) (hf:okF fs):FnP Tryz.prog 20 [.agg (aPr m fs)] fun a=>a=.agg (aPr m fs):=by
 refine ⟨by simp[AV.pureL,AV.pure,Zz],FnG.fz ?_⟩
 refine J81 X98 mixed rfl ?_
 simp only[Z00]
 obtain ⟨hf1,hf2⟩:=hf
 have hac:(AV.agg (aPr m fs)).cells=aPr m fs:=rfl
 have g0:(aPr m fs)[0]?=some (.v (.int .i64 m)):=rfl
 have g1:(aPr m fs)[1]?=some (.sl fs.length (fs.map aIxs) .none):=rfl
 have hb:fillA [AV.v (.int .i64 0),AV.sl 0 [] .nil] [(0,1)] [AV.v (.int .i64 m)]=some [AV.v (.int .i64 m),AV.sl 0 [] .nil]:=by simp[fillA,AV.cells,Value.cells,setAtA]
 refine Q9 (fun ε σ=>(ε 1=.ref 0 0 0∧ε 2=.ref 1 0 0)∧σ=[.obj 0 (aPr m fs),.obj 0 [.v (.int .i64 0),.sl 0 [] .nil]]) ?_ ?_
 ·intro N X R hN
  push_cast (disch:=omega)
  refine Qn ?_
  push_cast (disch:=omega)[hac]
  refine Qb ?_
  push_cast (disch:=omega)
  exact hN _ _ (by push_cast (disch:=omega))
 rintro ε σ ⟨hρ,rfl⟩
 refine Q9 (fun ε σ=>(ε 1=.ref 0 0 0∧ε 2=.ref 1 0 0∧ε 3=.ref 2 0 0)∧σ=[.obj 0 (aPr m fs),.obj 0 [.v (.int .i64 0),.sl 0 [] .nil],.obj 0 [.v (.int .i64 m),.sl 0 [] .nil]]) ?_ ?_
 ·intro N X R hN
  push_cast (disch:=omega)[hρ,g0,hb]
  refine Qb ?_
  push_cast (disch:=omega)
  refine Q8 (cs:=[AV.v (.int .i64 0),AV.sl 0 [] .nil]) rfl rfl rfl (by decide) ?_
  have hset:setAtA [AV.v (.int .i64 0),AV.sl 0 [] .nil] 0 [AV.v (.int .i64 m),AV.sl 0 [] .nil]=[AV.v (.int .i64 m),AV.sl 0 [] .nil]:=rfl
  rw[hset]
  push_cast (disch:=omega)
  exact hN _ _ (by push_cast (disch:=omega)[hρ])
 clear hρ ε
 rintro ε σ ⟨hρ,rfl⟩
 refine Q9 (fun ε σ=>(ε 2=.ref 1 0 0∧ε 3=.ref 2 0 0)∧∃w,σ=[.obj 0 (aPr m fs),.obj 0 [.v (.int .i64 0),.sl 0 [] .nil],.obj 0 [.v (.int .i64 m),.sl fs.length (fs.map aIxs) (.id 3 w 1)],.tail w]) ?_ ?_
 ·intro N X R hN
  push_cast (disch:=omega)[hρ]
  refine J5 (GU.tokO (i:=2) (j:=1) 1 rfl rfl) (α:=Nat) (I:=fun k ε σ=>(ε 1=.ref 0 0 0∧ε 2=.ref 1 0 0∧ε 3=.ref 2 0 0∧ε 4=.v (.int .i64 k))∧k≤fs.length∧∃w,σ=[.obj 0 (aPr m fs),.obj 0 [.v (.int .i64 0),.sl 0 [] .nil],.obj 0 [.v (.int .i64 m),.sl k ((fs.take k).map aIxs) (.id 3 w 1)],.tail w])
   (μ:=fun k=>fs.length - k) (Q:=fun ε σ=>(ε 2=.ref 1 0 0∧ε 3=.ref 2 0 0)∧∃w,σ=[.obj 0 (aPr m fs),.obj 0 [.v (.int .i64 0),.sl 0 [] .nil],.obj 0 [.v (.int .i64 m),.sl fs.length (fs.map aIxs) (.id 3 w 1)],.tail w]) (x:=0) ?_ ?_ hN
  ·push_cast (disch:=omega)[hρ]
   exact ⟨by omega,0,rfl⟩
  ·clear hN N X R hρ ε
   rintro k ε σ N E X R ⟨hρ,hk,w,rfl⟩ hN hE
   simp only[Q58]
   by_cases hlt:k < fs.length
   ·obtain ⟨l,hl⟩:=Q09 hlt
    have hll:=hf2 l (List.mem_of_getElem? hl)
    have hIL:aIxs l=.sl l.length (l.flatMap aIx) .none:=rfl
    have hfl:=Q28 X83 l
    have hex:(AV.sl k ((fs.take k).map aIxs) (.id 3 w 1)).exact=true:=rfl
    have hlk:(fs.take k).length=k:=by rw[List.length_take];omega
    push_cast (disch:=omega)[hρ,g1,hl]
    refine Qt (sz:=4) (by intro a ha;simp at ha) (by simp) ?_
    push_cast (disch:=omega)[hIL]
    refine Qp (m:=l.length) rfl rfl hfl (by rw[List.all_flatMap];simp only[show ∀x,(aIx x).all AV.one=true from fun x=>rfl];simp) rfl (by omega) (by omega) ?_
    push_cast (disch:=omega)[hρ]
    refine ⟨Qy (by push_cast (disch:=omega)[hρ,hex]),?_⟩
    refine Qt (sz:=1) (by intro a ha;simp at ha;subst ha;rfl) (by simp) ?_
    push_cast (disch:=omega)
    refine ⟨Qy (by push_cast (disch:=omega)[hρ,hex]),?_⟩
    refine Y07 (m:=1) rfl rfl rfl rfl (by simp;omega) (by omega) (by omega) rfl ?_
    push_cast (disch:=omega)[hρ]
    refine Q6 rfl rfl rfl (by simp) ?_
    push_cast (disch:=omega)[hρ]
    refine hN (k+1) _ _ ⟨by push_cast (disch:=omega)[hρ],by omega,w+1,?_⟩ (by omega)
    rw[Qs hl]
    simp[AV.cells,aIxs,aSlN]
   ·push_cast (disch:=omega)[hρ,g1]
    obtain rfl:k=fs.length:=by omega
    rw[List.take_length]
    exact hE _ _ ⟨by push_cast (disch:=omega)[hρ],w,rfl⟩
 clear hρ ε
 rintro ε σ ⟨hρ,w,rfl⟩
 have hc2:cellsA (some 2) [AV.v (.int .i64 m),.sl fs.length (fs.map aIxs) (.id 3 w 1)]=some (.agg [AV.v (.int .i64 m),.sl fs.length (fs.map aIxs) (.id 3 w 1)]):=rfl
 push_cast (disch:=omega)[hρ,hc2]
 refine Q8 (cs:=[AV.v (.int .i64 0),AV.sl 0 [] .nil]) rfl rfl rfl (by decide) ?_
 have hset:setAtA [AV.v (.int .i64 0),AV.sl 0 [] .nil] 0 [AV.v (.int .i64 m),.sl fs.length (fs.map aIxs) (.id 3 w 1)]=[AV.v (.int .i64 m),.sl fs.length (fs.map aIxs) (.id 3 w 1)]:=rfl
 rw[hset]
 push_cast (disch:=omega)[hρ,hc2]
 have hr:∀σ,(AV.agg [AV.v (.int .i64 m),.sl fs.length (fs.map aIxs) (.id 3 w 1)]).res σ=.agg (aPr m fs):=fun σ=>by
  have h1:=aFs_res σ fs (.id 3 w 1)
  simp only[AV.res,AV.resL] at h1 ⊢
  rw[h1]
  rfl
 refine ⟨[],?_,?_⟩
 ·rw[hr];simp[AV.pure,Zz]
 ·rw[hr]
end Go.Proofs.YtelibaobkcokdaaGreat
