/- Serial: Eval and Marks: what they answer. -/
import Derived.Test.YtncdnegdlkmicaaGreatQSek
namespace Go.Proofs.YtncdnegdlkmicaaGreat
set_option linter.unusedVariables false
set_option linter.unusedSimpArgs false
open Go Go.Kx Go.Proofs
def zS:Sv:=⟨[],[],[],0,0,0,[],0,0,0⟩
def runV (m:Int) (fs:List (List Ix)) (inp:List Int) (fuel:Int):Sv:=if runE m fs inp=0 then runS m fs inp (fuelN fuel) else zS
def aOc (s:Sv):List AV:=[.v (.int .i64 s.status),.v (.int .i64 s.why),aInts s.out,aInts s.data,.v (.int .i64 s.steps),.v (.int .i64 s.frames),.v (.int .i64 s.deepest)]
theorem aOc_pure (s:Sv):AV.pureL (aOc s)=true:=by simp[aOc,AV.pureL,AV.pure,Q07]
def aMks (l:List (Int×Int)):AV:=aSlN aMk l
theorem Yt (p:Int×Int):AV.pureL (aMk p)=true:=by simp[aMk,AV.pureL,AV.pure]
theorem aMk_res (σ:Kx.St) (p:Int×Int):AV.resL σ (aMk p)=aMk p:=by simp[aMk,AV.resL,AV.res]
theorem Z38 (l:List (Int×Int)):(aMks l).pure=true:=Q19 Yt l
theorem aMks_res' (σ:Kx.St) (l:List (Int×Int)) (t:Tok):(AV.sl l.length (l.flatMap aMk) t).res σ=aMks l:=Z10 (aMk_res σ) l t
theorem Z56 (k:Nat) (l:List Int):AV.shiftL k (l.map aInt)=l.map aInt:=by
 rw[Z51,List.map_map]
 exact List.map_congr_left fun x _=>rfl
theorem shift_mks (k:Nat) (l:List (Int×Int)):AV.shiftL k (l.flatMap aMk)=l.flatMap aMk:=by
 rw[Z51]
 induction l with
 | nil=>rfl
 | cons p l ih=>rw[List.flatMap_cons,List.map_append,ih];rfl
theorem shift_map (k:Nat) (A:List Res) (τ:Kx.St) (i:Nat) (cs:List AV) (hk:A.length=k) (h:τ[i]?=some (.obj 0 cs)):(A++τ.map (Res.shift k))[i+k]?=some (.obj 0 (AV.shiftL k cs)):=by
 rw[List.getElem?_append_right (by omega),hk,Nat.add_sub_cancel,List.getElem?_map,h]
 rfl
theorem cells_oc (k:Nat) (m:Int) (n w wm wo j:Nat) (s:Sv):cellsA (some 7) ((AV.shiftL k ((evC m n w wm wo s).set 9 (.sl s.data.length (s.data.map aInt) (.id j 1 1)))).drop 6) =
  some (.agg [.v (.int .i64 s.status),.v (.int .i64 s.why),.sl s.out.length (s.out.map aInt) (.id (8+k) wo 1),.sl s.data.length (s.data.map aInt) (.id (j+k) 1 1),.v (.int .i64 s.steps),.v (.int .i64 s.frames),.v (.int .i64 s.deepest)]):=by
 show some (AV.agg [_,_,.sl s.out.length (AV.shiftL k (s.out.map aInt)) _,.sl s.data.length (AV.shiftL k (s.data.map aInt)) _,_,_,_])=_
 rw[Z56,Z56]
 rfl
theorem cell_mk (k:Nat) (m:Int) (n w wm wo:Nat) (s:Sv) (x:AV):(AV.shiftL k ((evC m n w wm wo s).set 9 x))[4]?=some (.sl s.marks.length (s.marks.flatMap aMk) (.id (7+k) wm 3)):=by
 show some (AV.sl s.marks.length (AV.shiftL k (s.marks.flatMap aMk)) _)=_
 rw[shift_mks]
 rfl
theorem oc_res (σ:Kx.St) (s:Sv) (t u:Tok):AV.resL σ [.v (.int .i64 s.status),.v (.int .i64 s.why),.sl s.out.length (s.out.map aInt) t,.sl s.data.length (s.data.map aInt) u,.v (.int .i64 s.steps),.v (.int .i64 s.frames),.v (.int .i64 s.deepest)]=aOc s:=by
 have hi:∀(l:List Int) (t:Tok),(AV.sl l.length (l.map aInt) t).res σ=aInts l:=fun l t=>Zz (Z50 σ) l t
 simp[AV.resL,AV.res,aOc]
 exact ⟨hi _ .none,hi _ .none⟩
def aOcT (s:Sv) (t u:Tok):List AV:=[.v (.int .i64 s.status),.v (.int .i64 s.why),.sl s.out.length (s.out.map aInt) t,.sl s.data.length (s.data.map aInt) u,.v (.int .i64 s.steps),.v (.int .i64 s.frames),.v (.int .i64 s.deepest)]
def tokX:Tok→Bool
 | .nil=>true
 | .id _ _ _=>true
 | _=>false
theorem ocT_exact (s:Sv) {t u:Tok} (h:tokX t=true) (k:tokX u=true):(AV.agg (aOcT s t u)).exact=true:=by
 cases t<;>cases u<;>first|rfl|(simp[tokX] at h k)
section
variable (m:Int) (fs:List (List Ix)) (inp:List Int) (fuel:Int) (hf:okF fs) (hi:inp.length≤1000000)
include hf hi
set_option maxHeartbeats 4000000 in
theorem Eval_G:FnG Tryz.prog 12 [.agg (aPr m fs),aInts inp,aInt fuel] [] fun a _=>∃t u,tokX t=true∧tokX u=true∧a=.tup [.agg (aOcT (runV m fs inp fuel) t u),aInt (runE m fs inp)]:=by
 have hpu:AV.pureL [.agg (aPr m fs),aInts inp,aInt fuel]=true:=by simp[AV.pureL,AV.pure,Q83,Q07,aInt]
 refine Qk Yc mixed rfl ?_
 simp only[Xo]
 have hac:(AV.agg (aPr m fs)).cells=aPr m fs:=rfl
 have hzc:setAtA [AV.v (.int .i64 0),AV.v (.int .i64 0),.sl 0 [] .nil,.sl 0 [] .nil,AV.v (.int .i64 0),AV.v (.int .i64 0),AV.v (.int .i64 0)] 0 [AV.v (.int .i64 0),AV.v (.int .i64 0),.sl 0 [] .nil,.sl 0 [] .nil,AV.v (.int .i64 0),AV.v (.int .i64 0),AV.v (.int .i64 0)] =
  [AV.v (.int .i64 0),AV.v (.int .i64 0),.sl 0 [] .nil,.sl 0 [] .nil,AV.v (.int .i64 0),AV.v (.int .i64 0),AV.v (.int .i64 0)]:=rfl
 have hset:∀a b c d e f g:AV,setAtA [AV.v (.int .i64 0),AV.v (.int .i64 0),.sl 0 [] .nil,.sl 0 [] .nil,AV.v (.int .i64 0),AV.v (.int .i64 0),AV.v (.int .i64 0)] 0 [a,b,c,d,e,f,g]=[a,b,c,d,e,f,g]:=fun _ _ _ _ _ _ _=>rfl
 refine Q1 (fun ε σ=>(ε 1=aInts inp∧ε 2=aInt fuel∧ε 3=.ref 0 0 0∧ε 6=.ref 1 0 0)∧σ=[.obj 0 (aPr m fs),.obj 0 [AV.v (.int .i64 0),AV.v (.int .i64 0),.sl 0 [] .nil,.sl 0 [] .nil,AV.v (.int .i64 0),AV.v (.int .i64 0),AV.v (.int .i64 0)]]) ?_ ?_
 ·intro N X R hN
  push_cast (disch:=omega)
  refine Qd ?_
  push_cast (disch:=omega)[hac]
  refine Qb ?_
  push_cast (disch:=omega)
  exact hN _ _ ⟨by push_cast (disch:=omega),rfl⟩
 rintro ε σ ⟨hρ,rfl⟩
 by_cases he:runE m fs inp=0
 ·have hp:prgE m fs=0:=by
   unfold runE at he
   by_cases c:prgE m fs=0
   ·exact c
   ·rw[if_pos c] at he;exact absurd he c
  have hle:(inp.length:Int)≤m:=by
   unfold runE at he
   rw[if_neg (by simpa using hp)] at he
   by_cases c:m < inp.length
   ·rw[if_pos c] at he;cases he
   ·omega
  have hv:runV m fs inp fuel=runS m fs inp (fuelN fuel):=if_pos he
  rw[hv,he]
  refine Q1 (fun ε σ=>∃(σ0:Kx.St) (w wm wo j:Nat),(ε 6=.ref 1 0 0∧ε 8=.ref 6 0 0∧ε 9=.v (.int .i64 0))∧σ=[.obj 0 (aPr m fs),.obj 0 [AV.v (.int .i64 0),AV.v (.int .i64 0),.sl 0 [] .nil,.sl 0 [] .nil,AV.v (.int .i64 0),AV.v (.int .i64 0),AV.v (.int .i64 0)]]++σ0 ∧
    σ[6]?=some (.obj 0 (AV.shiftL 2 ((evC m fs.length w wm wo (runS m fs inp (fuelN fuel))).set 9 (.sl (runS m fs inp (fuelN fuel)).data.length ((runS m fs inp (fuelN fuel)).data.map aInt) (.id j 1 1)))))) ?_ ?_
  ·intro N X R hN
   push_cast (disch:=omega)[hρ,cellsPr]
   refine Z31 (run_ok m fs inp fuel hf hp hle) hpu ?_
   rintro a τ ⟨rfl,w,wm,wo,j,h4⟩
   push_cast (disch:=omega)[AV.shift,AV.shiftL,aInt]
   exact hN _ _ ⟨_,w,wm,wo,j,by push_cast (disch:=omega)[hρ],rfl,shift_map 2 [Res.obj 0 (aPr m fs),Res.obj 0 [AV.v (.int .i64 0),AV.v (.int .i64 0),.sl 0 [] .nil,.sl 0 [] .nil,AV.v (.int .i64 0),AV.v (.int .i64 0),AV.v (.int .i64 0)]] τ 4 _ rfl h4⟩
  clear hρ ε
  rintro ε σ ⟨σ0,w,wm,wo,j,hρ,hσ,h6⟩
  generalize runS m fs inp (fuelN fuel)=s at h6 ⊢
  have h1:σ[1]?=some (.obj 0 [AV.v (.int .i64 0),AV.v (.int .i64 0),.sl 0 [] .nil,.sl 0 [] .nil,AV.v (.int .i64 0),AV.v (.int .i64 0),AV.v (.int .i64 0)]):=by rw[hσ];rfl
  have hco:=cells_oc 2 m fs.length w wm wo j s
  generalize AV.shiftL 2 ((evC m fs.length w wm wo s).set 9 (.sl s.data.length (s.data.map aInt) (.id j 1 1)))=cs at h6 hco
  refine Q1 (fun ε σ'=>(ε 6=.ref 1 0 0∧ε 8=.ref 6 0 0)∧σ'=σ) ?_ ?_
  ·intro N X R hN
   push_cast (disch:=omega)[hρ]
   exact hN _ _ ⟨by push_cast (disch:=omega)[hρ],rfl⟩
  clear hρ ε
  rintro ε σ' ⟨hρ,e1⟩
  rw[e1]
  push_cast (disch:=omega)[hρ,h6,hco]
  refine Q5 rfl rfl h1 (by simp) ?_
  rw[hset]
  have h1':=Q4 (o:=Res.obj 0 [.v (.int .i64 s.status),.v (.int .i64 s.why),.sl s.out.length (s.out.map aInt) (.id (8+2) wo 1),.sl s.data.length (s.data.map aInt) (.id (j+2) 1 1),.v (.int .i64 s.steps),.v (.int .i64 s.frames),.v (.int .i64 s.deepest)]) h1
  have hc7:cellsA (some 7) [.v (.int .i64 s.status),.v (.int .i64 s.why),.sl s.out.length (s.out.map aInt) (.id (8+2) wo 1),.sl s.data.length (s.data.map aInt) (.id (j+2) 1 1),.v (.int .i64 s.steps),.v (.int .i64 s.frames),.v (.int .i64 s.deepest)]=some (.agg (aOcT s (.id (8+2) wo 1) (.id (j+2) 1 1))):=rfl
  push_cast (disch:=omega)[hρ,h1',hc7]
  exact ⟨_,_,rfl,rfl,rfl⟩
 ·have hv:runV m fs inp fuel=zS:=if_neg he
  rw[hv]
  have hfill:fillA [AV.v (.int .i64 0),AV.v (.int .i64 0),.sl 0 [] .nil,.sl 0 [] .nil,AV.v (.int .i64 0),AV.v (.int .i64 0),AV.v (.int .i64 0)] [] []=some [AV.v (.int .i64 0),AV.v (.int .i64 0),.sl 0 [] .nil,.sl 0 [] .nil,AV.v (.int .i64 0),AV.v (.int .i64 0),AV.v (.int .i64 0)]:=rfl
  refine Q1 (fun ε σ=>∃(σ0:Kx.St),(ε 6=.ref 1 0 0∧ε 9=.v (.int .i64 (runE m fs inp)))∧σ=[.obj 0 (aPr m fs),.obj 0 [AV.v (.int .i64 0),AV.v (.int .i64 0),.sl 0 [] .nil,.sl 0 [] .nil,AV.v (.int .i64 0),AV.v (.int .i64 0),AV.v (.int .i64 0)]]++σ0) ?_ ?_
  ·intro N X R hN
   push_cast (disch:=omega)[hρ,cellsPr]
   refine Z31 (run_err m fs inp fuel hf hi he) hpu ?_
   rintro a τ rfl
   push_cast (disch:=omega)[AV.shift,AV.shiftL,aInt]
   exact hN _ _ ⟨_,by push_cast (disch:=omega)[hρ],rfl⟩
  clear hρ ε
  rintro ε σ ⟨σ0,hρ,hσ⟩
  have h1:σ[1]?=some (.obj 0 [AV.v (.int .i64 0),AV.v (.int .i64 0),.sl 0 [] .nil,.sl 0 [] .nil,AV.v (.int .i64 0),AV.v (.int .i64 0),AV.v (.int .i64 0)]):=by rw[hσ];rfl
  push_cast (disch:=omega)[hρ,he,hfill]
  refine Q5 rfl rfl h1 (by simp) ?_
  rw[hset]
  have h1':=Q4 (o:=Res.obj 0 [AV.v (.int .i64 0),AV.v (.int .i64 0),.sl 0 [] .nil,.sl 0 [] .nil,AV.v (.int .i64 0),AV.v (.int .i64 0),AV.v (.int .i64 0)]) h1
  have hc7:cellsA (some 7) [AV.v (.int .i64 0),AV.v (.int .i64 0),.sl 0 [] .nil,.sl 0 [] .nil,AV.v (.int .i64 0),AV.v (.int .i64 0),AV.v (.int .i64 0)]=some (.agg [AV.v (.int .i64 0),AV.v (.int .i64 0),.sl 0 [] .nil,.sl 0 [] .nil,AV.v (.int .i64 0),AV.v (.int .i64 0),AV.v (.int .i64 0)]):=rfl
  push_cast (disch:=omega)[hρ,h1',hc7]
  exact ⟨.nil,.nil,rfl,rfl,rfl⟩
set_option maxHeartbeats 4000000 in
theorem Marks_a:FnP Tryz.prog 14 [.agg (aPr m fs),aInts inp,aInt fuel] fun a=>a=aMks (runV m fs inp fuel).marks:=by
 have hpu:AV.pureL [.agg (aPr m fs),aInts inp,aInt fuel]=true:=by simp[AV.pureL,AV.pure,Q83,Q07,aInt]
 refine Qh X73 mixed rfl hpu ?_
 simp only[Z77]
 have hac:(AV.agg (aPr m fs)).cells=aPr m fs:=rfl
 refine Q1 (fun ε σ=>(ε 1=aInts inp∧ε 2=aInt fuel∧ε 3=.ref 0 0 0)∧σ=[.obj 0 (aPr m fs)]) ?_ ?_
 ·intro N X R hN
  push_cast (disch:=omega)
  refine Qd ?_
  push_cast (disch:=omega)[hac]
  exact hN _ _ ⟨by push_cast (disch:=omega),rfl⟩
 rintro ε σ ⟨hρ,rfl⟩
 by_cases he:runE m fs inp=0
 ·have hp:prgE m fs=0:=by
   unfold runE at he
   by_cases c:prgE m fs=0
   ·exact c
   ·rw[if_pos c] at he;exact absurd he c
  have hle:(inp.length:Int)≤m:=by
   unfold runE at he
   rw[if_neg (by simpa using hp)] at he
   by_cases c:m < inp.length
   ·rw[if_pos c] at he;cases he
   ·omega
  have hv:runV m fs inp fuel=runS m fs inp (fuelN fuel):=if_pos he
  rw[hv]
  refine Q1 (fun ε σ=>∃(w wm wo:Nat) (x:AV),(ε 7=.ref 5 0 0∧ε 8=.v (.int .i64 0))∧σ[5]?=some (.obj 0 (AV.shiftL 1 ((evC m fs.length w wm wo (runS m fs inp (fuelN fuel))).set 9 x)))) ?_ ?_
  ·intro N X R hN
   push_cast (disch:=omega)[hρ,cellsPr]
   refine Z31 (run_ok m fs inp fuel hf hp hle) hpu ?_
   rintro a τ ⟨rfl,w,wm,wo,j,h4⟩
   push_cast (disch:=omega)[AV.shift,AV.shiftL,aInt]
   exact hN _ _ ⟨w,wm,wo,_,by push_cast (disch:=omega)[hρ],shift_map 1 [Res.obj 0 (aPr m fs)] τ 4 _ rfl h4⟩
  clear hρ ε
  rintro ε σ ⟨w,wm,wo,x,hρ,h5⟩
  generalize runS m fs inp (fuelN fuel)=s at h5 ⊢
  have hco:=cell_mk 1 m fs.length w wm wo s x
  generalize AV.shiftL 1 ((evC m fs.length w wm wo s).set 9 x)=cs at h5 hco
  push_cast (disch:=omega)[hρ,h5,hco]
  exact ZA [] (aMks_res' _ _ _) (Z38 _)
 ·have hv:runV m fs inp fuel=zS:=if_neg he
  rw[hv]
  push_cast (disch:=omega)[hρ,cellsPr]
  refine Z31 (run_err m fs inp fuel hf hi he) hpu ?_
  rintro a τ rfl
  push_cast (disch:=omega)[AV.shift,AV.shiftL,aInt,he]
  exact ZA [] rfl (Z38 _)
end
end Go.Proofs.YtncdnegdlkmicaaGreat
