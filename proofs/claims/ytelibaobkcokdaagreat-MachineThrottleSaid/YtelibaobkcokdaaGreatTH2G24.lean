/- The machine: all workers of a run. -/
import Derived.Test.YtelibaobkcokdaaGreatTH2G23
namespace Go.Proofs.YtelibaobkcokdaaGreat.Mx
set_option linter.unusedSectionVars false
set_option linter.unusedVariables false
set_option linter.unusedSimpArgs false
open Go Go.Kx Go.Proofs Go.Proofs.YtelibaobkcokdaaGreat
set_option maxRecDepth 8000
theorem core_New_e (m:Int) (q:Pm) (hf:okF q.fs) (inp:List Int) (he:coreE m q.fs inp q≠0) (σ:Kx.St):FnG Tryz.prog 44 [.agg (Go.Proofs.YtelibaobkcokdaaGreat.aPr m q.fs),aInts inp,.agg (aPr q)] σ fun a σ'=>a=.tup [.v (.pointer none),aInt (coreE m q.fs inp q)]∧σ'=σ:=by
 refine Q3 XL.2 mixed rfl ?_;simp only[XL,qH];have hac:(AV.agg (Go.Proofs.YtelibaobkcokdaaGreat.aPr m q.fs)).cells=Go.Proofs.YtelibaobkcokdaaGreat.aPr m q.fs:=rfl;have c2:cellsA (some 2) (Go.Proofs.YtelibaobkcokdaaGreat.aPr m q.fs)=some (.agg (Go.Proofs.YtelibaobkcokdaaGreat.aPr m q.fs)):=rfl;push_cast -implicitDefEqProofs (disch:=omega);refine Q6 ?_;push_cast -implicitDefEqProofs (disch:=omega);refine Q6 ?_;push_cast -implicitDefEqProofs (disch:=omega)[hac,Q39,c2,prc7];refine Q5 (X98 m q.fs hf inp q) ?_;push_cast -implicitDefEqProofs (disch:=omega)[aInt,he]
 first|exact ⟨rfl,rfl⟩|exact trivial|exact rfl
section
variable {q:Pm} {pl:Pl} {σ:Kx.St} {L:List Wk} {s:Cs}
theorem MM.new1 (h:MM q pl σ L s) {L':List Wk} {ro0:Ro} {r0:Res} (h1:img q (pl.put ro0 σ.length) L' s ro0=some r0)
  (h2:∀ro,ro≠ro0→img q (pl.put ro0 σ.length) L' s ro=img q pl L s ro) (sd:Sd q (pl.put ro0 σ.length) L' s):MM q (pl.put ro0 σ.length) (σ++[r0]) L' s:=by
 refine ⟨fun ro r e=>?_,fun a b ha hb e=>?_,sd,fun ro=>?_⟩
 ·by_cases hr:ro=ro0
  ·subst hr;rw[h1] at e;cases e;rw[Qo];exact Qe _ _
  ·rw[Q14 hr];rw[h2 ro hr] at e;exact Qn (h.at_ ro r e)
 ·by_cases hra:a=ro0
  ·by_cases hrb:b=ro0
   ·rw[hra,hrb]
   ·rw[hra,Qo,Q14 hrb] at e;have:=h.lt b;omega
  ·by_cases hrb:b=ro0
   ·rw[hrb,Qo,Q14 hra] at e;have:=h.lt a;omega
   ·rw[Q14 hra,Q14 hrb] at e;rw[h2 a hra] at ha;rw[h2 b hrb] at hb;exact h.inj a b ha hb e
 ·rw[List.length_append];by_cases hr:ro=ro0
  ·subst hr;rw[Qo];exact Nat.lt_succ_self _
  ·rw[Q14 hr];have:=h.lt ro;exact Nat.lt_succ_of_lt this
theorem MM.newWk (h:MM q pl σ L s) (n:Int):MM q (pl.put (.wk L.length) σ.length) (σ++[.obj 0 (aWk (pl.put (.wk L.length) σ.length) L.length (wkNew n))]) (L++[wkNew n]) s:=by
 have hself:(L++[wkNew n])[L.length]?=some (wkNew n):=by simp
 have hother:∀j,j≠L.length→(L++[wkNew n])[j]?=L[j]?:=fun j hj=>by
  by_cases c:j < L.length
  ·exact List.getElem?_append_left c
  ·rw[List.getElem?_eq_none eG,List.getElem?_eq_none ka]
 have hnone:L[L.length]?=none:=List.getElem?_eq_none (Nat.le_refl _);refine h.new1 eo (fun ro hro=>?_) ⟨h.sd.ok,h.sd.ws,h.sd.fr,h.sd.hl,h.sd.rg,h.sd.bk,h.sd.ib,h.sd.f0,h.sd.o0,h.sd.l0,h.sd.ol,h.sd.dt,fun j v d hv hd=>?_,h.sd.fs⟩
 ·cases ro with
  | wk j=>have hj:j≠L.length:=fun e=>hro (by rw[e]);have hp:(pl.put (.wk L.length) σ.length).p (.wk j)=pl.p (.wk j):=Q14 hro;simp only[img,hother j hj,aWk,hp];rfl
  | dq j|rt j|pk j|wa j|np j=>
   by_cases hj:j=L.length
   ·subst hj;simp only[img,hself,hnone];try rfl
   ·simp only[img,hother j hj];try rfl
  | _=>rfl
 ·by_cases hj:j=L.length
  ·subst hj;rw[hself] at hv;cases hv;cases hd
  ·rw[hother j hj] at hv;exact h.sd.dq j v d hv hd
end
theorem MM.setOut {q:Pm} {pl:Pl} {σ:Kx.St} {L:List Wk} {s:Cs} (h:MM q pl σ L s) {j:Nat} (hj:∀ro,pl.p ro≠j) (r:Res):MM q pl (σ.set j r) L s:=
 ⟨fun ro r' e=>by rw[List.getElem?_set_ne (fun e2=>hj ro e2.symm)];exact h.at_ ro r' e,h.inj,h.sd,fun ro=>by rw[List.length_set];exact h.lt ro⟩
theorem w_Start_a {q:Pm} {L:List Wk} {k jw jc:Nat} {pl0 pl:Pl} {σ0 σ:Kx.St} {x:WC} (h:WM q L k jw jc pl0 σ0 pl σ x) (id:Int):FnG Tryz.prog 13 [.ref jw 0 0,.v (.int .i64 id)] σ fun _ σ'=>∃pl',WM q L k jw jc pl0 σ0 pl' σ' (x.1.runs id,x.2):=by refine Q3 Q78.2 mixed rfl ?_;simp only[Q78,qH];push_cast -implicitDefEqProofs;refine Q0 (Z41 h id) ?_;rintro a σ1 ⟨pl1,h1⟩;push_cast -implicitDefEqProofs;exact ⟨_,h1⟩
structure MaM (jm:Nat) (q:Pm) (pl:Pl) (σ:Kx.St) (m:Mc):Prop where
 mm:MM q pl σ m.l m.c
 mo:∃t,σ[jm]?=some (.obj 0 [.ref (pl.p .c) 0 0,.sl m.l.length ((List.range m.l.length).map fun k=>.ref (pl.p (.wk k)) 0 0) t])
 ne:∀ro,pl.p ro≠jm
 ln:(m.l.length:Int)=q.W
def mkM (q:Pm) (M:Nat) (inp:List Int):Mc:=⟨mk0 q M inp,((List.range q.W.toNat).map fun i=>wkNew (i:Nat)).set 0 ((wkNew 0).runs 1)⟩
theorem X34 (m:Int) (q:Pm) (hf:okF q.fs) (inp:List Int) (he:coreE m q.fs inp q≠0) (σ:Kx.St):FnG Tryz.prog 19 [.agg (Go.Proofs.YtelibaobkcokdaaGreat.aPr m q.fs),aInts inp,.agg (aPr q)] σ fun a σ'=>a=.tup [.v (.pointer none),aInt (coreE m q.fs inp q)]∧σ'=σ:=by
 refine Q3 ZA.2 mixed rfl ?_;simp only[ZA,qH];have hac:(AV.agg (Go.Proofs.YtelibaobkcokdaaGreat.aPr m q.fs)).cells=Go.Proofs.YtelibaobkcokdaaGreat.aPr m q.fs:=rfl;have c2:cellsA (some 2) (Go.Proofs.YtelibaobkcokdaaGreat.aPr m q.fs)=some (.agg (Go.Proofs.YtelibaobkcokdaaGreat.aPr m q.fs)):=rfl;push_cast -implicitDefEqProofs (disch:=omega);refine Q6 ?_;push_cast -implicitDefEqProofs (disch:=omega);refine Q6 ?_;push_cast -implicitDefEqProofs (disch:=omega)[hac,Q39,c2,prc7];refine Q0 (core_New_e m q hf inp he σ) ?_;rintro a σ1 ⟨rfl,hs⟩;rw[hs];push_cast -implicitDefEqProofs (disch:=omega)[aInt,he]
 first|exact ⟨rfl,rfl⟩|exact trivial|exact rfl
set_option maxHeartbeats 4000000 in
theorem Y94 (M:Nat) (q:Pm) (hf:okF q.fs) (inp:List Int) (he:coreE M q.fs inp q=0) (σ:Kx.St):FnG Tryz.prog 19 [.agg (Go.Proofs.YtelibaobkcokdaaGreat.aPr M q.fs),aInts inp,.agg (aPr q)] σ fun a σ'=>∃jm pl,a=.tup [.ref jm 0 0,aInt 0]∧MaM jm q pl σ' (mkM q M inp)∧(∀j,j < σ.length→σ'[j]?=σ[j]?)∧(∀ro,σ.length≤pl.p ro)∧σ.length≤jm:=by
 refine Q3 ZA.2 mixed rfl ?_;simp only[ZA,qH];have hac:(AV.agg (Go.Proofs.YtelibaobkcokdaaGreat.aPr M q.fs)).cells=Go.Proofs.YtelibaobkcokdaaGreat.aPr M q.fs:=rfl;have c2:cellsA (some 2) (Go.Proofs.YtelibaobkcokdaaGreat.aPr M q.fs)=some (.agg (Go.Proofs.YtelibaobkcokdaaGreat.aPr M q.fs)):=rfl;refine Qc (fun ε σ1=>(ε 1=aInts inp∧ε 3=.ep (Go.Proofs.YtelibaobkcokdaaGreat.aPr M q.fs)∧ε 5=.ep (aPr q))∧σ1=σ) ?_ ?_
 ·intro N X R hN;push_cast -implicitDefEqProofs (disch:=omega);refine Q6 ?_;push_cast -implicitDefEqProofs (disch:=omega);refine Q6 ?_;push_cast -implicitDefEqProofs (disch:=omega)[hac,Q39];exact hN _ _ ⟨by push_cast -implicitDefEqProofs (disch:=omega),rfl⟩
 rintro ε σ1 ⟨hρ,e1⟩;rw[e1];clear e1 σ1;refine Qc (fun ε σ1=>ε 5=.ep (aPr q)∧∃pl,(ε 8=.ref (pl.p .c) 0 0∧ε 9=.v (.int .i64 0))∧MM q pl σ1 [] (mk0 q M inp)∧(∀j,j < σ.length→σ1[j]?=σ[j]?)∧∀ro,σ.length≤pl.p ro) ?_ ?_
 ·intro N X R hN;push_cast -implicitDefEqProofs (disch:=omega)[hρ,c2,prc7];refine Q0 (core_New_n M q hf inp he σ) ?_;rintro a σ1 ⟨pl,rfl,h,h1,h2⟩;push_cast -implicitDefEqProofs (disch:=omega)[aInt,hρ];exact hN _ _ ⟨by push_cast -implicitDefEqProofs (disch:=omega)[hρ],pl,by push_cast -implicitDefEqProofs (disch:=omega)[hρ],h,h1,h2⟩
 clear hρ ε;rintro ε σ1 ⟨hρ5,pl,hρ,h,h1,h2⟩;have hok:=h.sd.ok;obtain ⟨W,hW⟩:∃W:Nat,W=q.W.toNat:=⟨_,rfl⟩;have hW1:q.W=(W:Int):=by have:=hok.1;omega
 have hW2:1≤W∧W≤64:=by have:=hok.1;omega
 refine Qc (fun ε σ2=>(ε 5=.ep (aPr q)∧ε 8=.ref (pl.p .c) 0 0)∧σ2=σ1) ?_ ?_
 ·intro N X R hN;push_cast -implicitDefEqProofs (disch:=omega)[hρ,hρ5];exact hN _ _ ⟨by push_cast -implicitDefEqProofs (disch:=omega)[hρ,hρ5],rfl⟩
 clear hρ hρ5 ε;rintro ε σ2 ⟨hρ,e2⟩;rw[e2];clear e2 σ2;have hlen:σ.length≤σ1.length:=by have:=h2 .c;have:=h.lt .c;omega
 refine Qc (fun ε σ2=>(ε 5=.ep (aPr q)∧ε 10=.ref σ1.length 0 0)∧σ2=σ1++[.obj 0 [.ref (pl.p .c) 0 0,.sl 0 [] .nil]]) ?_ ?_
 ·intro N X R hN;have hb:fillA [AV.v (.pointer none),.sl 0 [] .nil] [(0,1)] [.ref (pl.p .c) 0 0]=some [.ref (pl.p .c) 0 0,.sl 0 [] .nil]:=by simp[fillA,AV.cells,setAtA]
  push_cast -implicitDefEqProofs (disch:=omega)[hρ,hb];refine Qs ?_;push_cast -implicitDefEqProofs (disch:=omega);exact hN _ _ ⟨by push_cast -implicitDefEqProofs (disch:=omega)[hρ],rfl⟩
 clear hρ ε;rintro ε σ2 ⟨hρ,rfl⟩;have hlt1:pl.p .c < σ1.length:=h.lt .c;refine Qc (fun ε σ2=>ε 10=.ref σ1.length 0 0∧∃pl' w,MM q pl' σ2 ((List.range W).map fun i=>wkNew (i:Nat)) (mk0 q M inp)∧pl'.p .c=pl.p .c∧σ2[σ1.length]?=some (.obj 0 [.ref (pl.p .c) 0 0,.sl W ((List.range W).map fun i=>.ref (pl'.p (.wk i)) 0 0) (.id (σ1.length+1) w 1)])∧(∀ro,pl'.p ro≠σ1.length)∧(∀j,j < σ.length→σ2[j]?=σ[j]?)∧∀ro,σ.length≤pl'.p ro) ?_ ?_
 ·intro N X R hN;have p5:(aPr q)[0]?=some (.v (.int .i64 (W:Int))):=by rw[←hW1];rfl
  push_cast -implicitDefEqProofs (disch:=omega)[hρ,p5];have hl1:(σ1++[Res.obj 0 [.ref (pl.p .c) 0 0,.sl 0 [] .nil]]).length=σ1.length+1:=by simp
  refine Y8 (GU.tokO (i:=σ1.length) (j:=1) 1 (Qe _ _) rfl) (α:=Nat) (I:=fun k ε σ2=>(ε 10=.ref σ1.length 0 0∧ε 26=.v (.int .i64 (W:Int))∧ε 27=.v (.int .i64 k))∧k≤W∧∃pl' w,MM q pl' σ2 ((List.range k).map fun i=>wkNew (i:Nat)) (mk0 q M inp)∧pl'.p .c=pl.p .c∧σ2[σ1.length]?=some (.obj 0 [.ref (pl.p .c) 0 0,.sl k ((List.range k).map fun i=>.ref (pl'.p (.wk i)) 0 0) (.id (σ1.length+1) w 1)])∧σ2[σ1.length+1]?=some (.tail w)∧(∀ro,pl'.p ro≠σ1.length∧pl'.p ro≠σ1.length+1)∧(∀j,j < σ.length→σ2[j]?=σ[j]?)∧∀ro,σ.length≤pl'.p ro)
   (μ:=fun k=>W - k) (Q:=fun ε σ2=>ε 10=.ref σ1.length 0 0∧∃pl' w,MM q pl' σ2 ((List.range W).map fun i=>wkNew (i:Nat)) (mk0 q M inp)∧pl'.p .c=pl.p .c∧σ2[σ1.length]?=some (.obj 0 [.ref (pl.p .c) 0 0,.sl W ((List.range W).map fun i=>.ref (pl'.p (.wk i)) 0 0) (.id (σ1.length+1) w 1)])∧(∀ro,pl'.p ro≠σ1.length)∧(∀j,j < σ.length→σ2[j]?=σ[j]?)∧∀ro,σ.length≤pl'.p ro) (x:=0) ?_ ?_ hN
  ·rw[hl1,Qu];refine ⟨by push_cast -implicitDefEqProofs (disch:=omega)[hρ],by omega,pl,0,(h.app _).app _,rfl,?_,?_,fun ro=>?_,fun j hj=>?_,h2⟩
   ·rw[List.append_assoc,app_at0];rfl
   ·rw[List.append_assoc,Y09];rfl
   ·have:=h.lt ro;omega
   ·rw[List.append_assoc,List.getElem?_append_left ka];exact h1 j hj
  ·clear hN N X R hρ ε;rintro k ε σ2 N E X R ⟨hρ,hk,pl',w,g0,g1,g2,g3,g4,g5,g6⟩ hN hE;by_cases hlt:k < W
   ·have hex:∀l,(AV.sl k l (.id (σ1.length+1) w 1)).exact=true:=fun _=>rfl;have g2':∀τ:Kx.St,(σ2++τ)[σ1.length]?=_:=fun τ=>Qn g2;have g3':∀τ:Kx.St,(σ2++τ)[σ1.length+1]?=_:=fun τ=>Qn g3;have hlk:((List.range k).map fun i=>wkNew (i:Nat)).length=k:=by simp
    have h':=g0.newWk k;rw[hlk] at h';push_cast -implicitDefEqProofs (disch:=omega)[hρ,g2,hex];refine Q0 (worker_New_a k σ2) ?_;rintro a σ3 ⟨rfl,e3⟩;rw[e3 (pl'.put (.wk k) σ2.length) k];clear e3;push_cast -implicitDefEqProofs (disch:=omega)[hρ,g2',hex];refine QA (sz:=1) oG ke ?_;push_cast -implicitDefEqProofs (disch:=omega)[hρ,g2',hex];refine X44 (m:=1) rfl rfl rfl rfl ke ka ka (g3' _) ?_;push_cast -implicitDefEqProofs (disch:=omega)[hρ];have hlt2:=h'.lt (.wk k)
    have g7:∀ro,(pl'.put (.wk k) σ2.length).p ro≠σ1.length∧(pl'.put (.wk k) σ2.length).p ro≠σ1.length+1:=by
     intro ro;by_cases hr:ro=.wk k
     ·subst hr;rw[Qo];have:=Qh g3;omega
     ·rw[Q14 hr];exact g4 ro
    refine Q9 rfl rfl (Qa ka (g2' _)) ke ?_;push_cast -implicitDefEqProofs (disch:=omega)[hρ];refine hN (k+1) _ _ ⟨by push_cast -implicitDefEqProofs (disch:=omega)[hρ],by omega,pl'.put (.wk k) σ2.length,w+1,?_,?_,?_,?_,g7,?_,?_⟩ ka
    ·have e4:((List.range (k+1)).map fun i=>wkNew (i:Nat))=((List.range k).map fun i=>wkNew (i:Nat))++[wkNew (k:Nat)]:=by rw[List.range_succ,List.map_append];rfl
     rw[e4];exact (h'.setOut (fun ro=>(g7 ro).2) _).setOut (fun ro=>(g7 ro).1) _
    ·rw[Q14 ke];exact g1
    ·rw[Qb (Qa ka (g2' _))];have e5:((List.range (k+1)).map fun i=>AV.ref ((pl'.put (.wk k) σ2.length).p (.wk i)) 0 0)=((List.range k).map fun i=>AV.ref (pl'.p (.wk i)) 0 0)++[AV.ref σ2.length 0 0]:=by rw[List.range_succ,List.map_append,List.map_singleton,Qo];congr 1;refine List.map_congr_left fun i hi=>?_;rw[Q14 (by simp at hi;simp;omega)]
     rw[e5]
    ·rw[List.getElem?_set_ne ka];exact Qb (g3' _)
    ·intro j hj;rw[List.getElem?_set_ne ka,List.getElem?_set_ne ka,List.getElem?_append_left (by have:=Qh g3;omega)];exact g5 j hj
    ·intro ro;by_cases hr:ro=.wk k
     ·subst hr;rw[Qo];have:=Qh g3;omega
     ·rw[Q14 hr];exact g6 ro
   ·push_cast -implicitDefEqProofs (disch:=omega)[hρ];obtain rfl:k=W:=by omega
    exact hE _ _ ⟨by push_cast -implicitDefEqProofs (disch:=omega)[hρ],pl',w,g0,g1,g2,fun ro=>(g4 ro).1,g5,g6⟩
 clear hρ ε;rintro ε σ2 ⟨hρ,pl',w,g0,g1,g2,g4,g5,g6⟩;have hk0:((List.range W).map fun i=>wkNew (i:Nat))[0]?=some (wkNew 0):=by rw[List.getElem?_map,List.getElem?_range ka];rfl
 have hr0:((List.range W).map fun i=>AV.ref (pl'.p (.wk i)) 0 0)[0]?=some (.ref (pl'.p (.wk 0)) 0 0):=by rw[List.getElem?_map,List.getElem?_range ka];rfl
 have hset:((List.range W).map fun i=>wkNew (i:Nat)).set 0 (wkNew 0)=(List.range W).map fun i=>wkNew (i:Nat):=Q20 hk0;have hWM:WM q ((List.range W).map fun i=>wkNew (i:Nat)) 0 (pl'.p (.wk 0)) (pl'.p .c) pl' σ2 pl' σ2 (wkNew 0,mk0 q M inp):=⟨by rw[hset];exact g0,Qh hk0,rfl,rfl,.refl _ _⟩;have hW0:(0:Int) < (W:Int):=by omega
 have hr1:(Option.map (fun i=>AV.ref (pl'.p (.wk i)) 0 0) (List.range W)[Int.toNat 0]?)=some (.ref (pl'.p (.wk 0)) 0 0):=by rw[show Int.toNat 0=0 from rfl,List.getElem?_range ka];rfl
 push_cast -implicitDefEqProofs (disch:=omega)[hρ,g2,hr0,hr1,hW0];refine Q0 (w_Start_a hWM 1) ?_;rintro a σ3 ⟨pl3,h3⟩;push_cast -implicitDefEqProofs (disch:=omega)[hρ];have X:=h3.ex;have eM:mkM q M inp=⟨mk0 q M inp,((List.range W).map fun i=>wkNew (i:Nat)).set 0 ((wkNew 0).runs 1)⟩:=by rw[hW];rfl
 have hlm:((List.range W).map fun i=>wkNew (i:Nat)).length=W:=by simp
 rw[eM];refine ⟨σ1.length,pl3,rfl,⟨h3.mm,⟨.id (σ1.length+1) w 1,?_⟩,fun ro=>?_,by simp only[List.length_set,hlm];exact hW1.symm⟩,fun j hj=>?_,fun ro=>?_,hlen⟩
 ·simp only[List.length_set,hlm];have eR:((List.range W).map fun i=>AV.ref (pl3.p (.wk i)) 0 0)=(List.range W).map fun i=>AV.ref (pl'.p (.wk i)) 0 0:=List.map_congr_left fun i _=>by rw[X.fix (.wk i) rfl]
  rw[eR,X.keep _ (Qh g2) g4,g2,X.fix .c rfl,g1]
 ·rcases X.new ro with e|e
  ·rw[e];exact g4 ro
  ·have:=Qh g2;omega
 ·have hj2:j < σ2.length:=by have:=Qh g2;omega
  rw[X.keep j hj2 (fun ro=>by have:=g6 ro;omega)];exact g5 j hj
 ·rcases X.new ro with e|e
  ·rw[e];exact g6 ro
  ·have:=Qh g2;omega
theorem MaM.of {jm:Nat} {q:Pm} {pl pl':Pl} {σ σ':Kx.St} {m m':Mc} (h:MaM jm q pl σ m) (h':MM q pl' σ' m'.l m'.c) (X:Ext pl pl' σ σ') (hl:m'.l.length=m.l.length):MaM jm q pl' σ' m':=by
 obtain ⟨t,ht⟩:=h.mo;have hlt:=Qh ht;refine ⟨h',⟨t,?_⟩,fun ro=>?_,by rw[hl];exact h.ln⟩
 ·have eR:((List.range m.l.length).map fun i=>AV.ref (pl'.p (.wk i)) 0 0)=(List.range m.l.length).map fun i=>AV.ref (pl.p (.wk i)) 0 0:=List.map_congr_left fun i _=>by rw[X.fix (.wk i) rfl]
  rw[hl,eR,X.keep _ hlt h.ne,ht,X.fix .c rfl]
 ·rcases X.new ro with e|e
  ·rw[e];exact h.ne ro
  ·omega
section
variable {jm:Nat} {q:Pm} {pl:Pl} {σ:Kx.St} {m:Mc}
theorem Q45 (h:MaM jm q pl σ m):FnG Tryz.prog 27 [.ref jm 0 0] σ fun a σ'=>a=aBool m.ended∧σ'=σ:=by
 refine Q3 Q44.2 mixed rfl ?_;simp only[Q44,qH];obtain ⟨t,ht⟩:=h.mo;have hc:=h.mm.c;push_cast -implicitDefEqProofs (disch:=omega)[ht];refine Q4 (Z86 h.mm) ?_;by_cases c:m.c.status=0
 ·have e1:aInt m.c.status=.v (.int .i64 0):=by rw[c];rfl
  have e2:m.ended=decide (8388608≤m.c.steps):=by unfold Mc.ended;simp[c]
  rw[e1,e2];push_cast -implicitDefEqProofs (disch:=omega)[aInt,ht];refine Q4 (Q08 h.mm) ?_;have g13:(aCore q pl m.c)[13]?=some (.v (.int .i64 m.c.steps)):=rfl;push_cast -implicitDefEqProofs (disch:=omega)[hc,g13,aBool,Nat.add_zero]
  first|exact trivial|exact rfl|exact ⟨rfl,rfl⟩
 ·have e2:m.ended=true:=by unfold Mc.ended;simp[c]
  rw[e2];push_cast -implicitDefEqProofs (disch:=omega)[aInt,c,aBool]
  first|exact trivial|exact rfl|exact ⟨rfl,rfl⟩
theorem Y26 (h:MaM jm q pl σ m) (hok:∀w∈m.l,WkOk w) (hlg:m.c.log.length+1≤1000000000) (hbk:m.c.back.length≤1000000000) (hF:m.c.Fresh) (worker victim:Int):
  FnG Tryz.prog 21 [.ref jm 0 0,.agg [.v (.int .i64 worker),.v (.int .i64 victim)]] σ fun a σ'=>∃pl',a=aBool (m.step q worker victim).ended∧MaM jm q pl' σ' (m.step q worker victim)∧Ext pl pl' σ σ':=by
 refine Q3 Q63.2 mixed rfl ?_;simp only[Q63,qH];have hac:(AV.agg [AV.v (.int .i64 worker),AV.v (.int .i64 victim)]).cells=[AV.v (.int .i64 worker),AV.v (.int .i64 victim)]:=rfl;push_cast -implicitDefEqProofs (disch:=omega);refine Q6 ?_;push_cast -implicitDefEqProofs (disch:=omega)[hac];refine Q4 (Q45 h) ?_
 cases c:m.ended with
 | true=>
  have e:m.step q worker victim=m:=by unfold Mc.step;rw[if_pos c]
  rw[e,c];push_cast -implicitDefEqProofs (disch:=omega)[aBool];exact ⟨pl,h,.refl _ _⟩
 | false=>
  obtain ⟨t,ht⟩:=h.mo;have hln:=h.ln;have hW:=h.mm.sd.ok.1;have hrm:0≤(max worker 0) % q.W∧(max worker 0) % q.W < q.W:=⟨Int.emod_nonneg _ ka,Int.emod_lt_of_pos _ ka⟩;have hk:pickN q worker < m.l.length:=by unfold pickN;omega
  obtain ⟨w,hw⟩:=Q23 hk;have hr0:((List.range m.l.length).map fun i=>AV.ref (pl.p (.wk i)) 0 0)[pickN q worker]?=some (.ref (pl.p (.wk (pickN q worker))) 0 0):=by rw[List.getElem?_map,List.getElem?_range hk];rfl
  have e:m.step q worker victim=⟨(wkStep q (w,m.c) victim).2,m.l.set (pickN q worker) (wkStep q (w,m.c) victim).1⟩:=by unfold Mc.step;rw[if_neg (by rw[c];decide),List.getD_eq_getElem?_getD,hw];rfl
  rw[e];have hset:m.l.set (pickN q worker) w=m.l:=Q20 hw;have hWM:WM q m.l (pickN q worker) (pl.p (.wk (pickN q worker))) (pl.p .c) pl σ pl σ (w,m.c):=⟨by rw[hset];exact h.mm,hk,rfl,rfl,.refl _ _⟩;push_cast -implicitDefEqProofs (disch:=omega)[aBool,hac,ht];have e5:max worker 0 % (m.l.length:Int)=((pickN q worker:Nat):Int):=by unfold pickN;rw[hln];omega
  rw[e5];have hr1:(Option.map (fun i=>AV.ref (pl.p (.wk i)) 0 0) (List.range m.l.length)[pickN q worker]?)=some (.ref (pl.p (.wk (pickN q worker))) 0 0):=by rw[List.getElem?_range hk];rfl
  push_cast -implicitDefEqProofs (disch:=omega)[hac,ht,hr0,hr1];refine Q0 (w_Step_a hWM (hok w (List.mem_of_getElem? hw)) hlg hbk hF victim) ?_;rintro a σ1 ⟨pl1,h1⟩;push_cast -implicitDefEqProofs (disch:=omega);have hM:MaM jm q pl1 σ1 ⟨(wkStep q (w,m.c) victim).2,m.l.set (pickN q worker) (wkStep q (w,m.c) victim).1⟩:=h.of h1.mm h1.ex (by simp only[List.length_set]);refine Q4 (Q45 hM) ?_;push_cast -implicitDefEqProofs (disch:=omega)
  first|exact ⟨pl1,hM,h1.ex⟩|exact ⟨pl1,rfl,hM,h1.ex⟩
theorem Xg (h:MaM jm q pl σ m):FnG Tryz.prog 22 [.ref jm 0 0] σ fun a σ'=>a=aInt (usedN m.c.held)∧σ'=σ:=by
 refine Q3 Q33.2 mixed rfl ?_;simp only[Q33,qH];obtain ⟨t,ht⟩:=h.mo;push_cast -implicitDefEqProofs[ht];refine Q4 (Zz h.mm) ?_;push_cast -implicitDefEqProofs[ht];refine Q4 (frame_Used_a h.mm) ?_;push_cast -implicitDefEqProofs[aInt]
 first|exact trivial|exact rfl|exact ⟨rfl,rfl⟩
end
def A3 (n:Nat) (s s':Cs):Prop:=s'.back=s.back∧s'.held=s.held∧s'.fresh=s.fresh∧s'.log.length≤s.log.length+n
theorem A3.refl (n:Nat) (s:Cs):A3 n s s:=⟨rfl,rfl,rfl,Nat.le_add_right _ _⟩
theorem A3.trans {n m k:Nat} {s s' s'':Cs} (h:A3 n s s') (h':A3 m s' s'') (e:n+m≤k):A3 k s s'':=⟨h'.1.trans h.1,h'.2.1.trans h.2.1,h'.2.2.1.trans h.2.2.1,by have:=h.2.2.2;have:=h'.2.2.2;omega⟩
theorem Q46 (s:Cs) (id:Int) (f:Fm):(s.setFr id f).back=s.back:=Z42.1
theorem Q47 (s:Cs) (id:Int) (f:Fm):(s.setFr id f).held=s.held:=Z42.2.1
theorem Q48 (s:Cs) (id:Int) (f:Fm):(s.setFr id f).fresh=s.fresh:=Z42.2.2.1
theorem Z87 (s:Cs) (id:Int) (f:Fm):(s.setFr id f).log=s.log:=Z42.2.2.2
theorem X35 (s:Cs) (a b:Int):(s.stop a b).back=s.back:=by unfold Cs.stop;split<;>rfl
theorem X36 (s:Cs) (a b:Int):(s.stop a b).held=s.held:=by unfold Cs.stop;split<;>rfl
theorem X37 (s:Cs) (a b:Int):(s.stop a b).fresh=s.fresh:=by unfold Cs.stop;split<;>rfl
theorem Y52 (s:Cs) (a b:Int):(s.stop a b).log=s.log:=by unfold Cs.stop;split<;>rfl
theorem Y95 (s:Cs) (c:Bool) (id:Int) (f:Fm):(s.setIf c id f).back=s.back:=by unfold Cs.setIf;split;exact Q46 ..;rfl
theorem Y96 (s:Cs) (c:Bool) (id:Int) (f:Fm):(s.setIf c id f).held=s.held:=by unfold Cs.setIf;split;exact Q47 ..;rfl
theorem Y97 (s:Cs) (c:Bool) (id:Int) (f:Fm):(s.setIf c id f).fresh=s.fresh:=by unfold Cs.setIf;split;exact Q48 ..;rfl
theorem setIf_l (s:Cs) (c:Bool) (id:Int) (f:Fm):(s.setIf c id f).log=s.log:=by unfold Cs.setIf;split;exact Z87 ..;rfl
section
variable {q:Pm} {x:WC}
theorem tmxg1 {Pr:Prop} (h:Pr:=by (try dsimp only);(repeat' split);all_goals simp[A3,Q46,Q47,Q48,Z87,X35,X36,X37,Y52,Y95,Y96,Y97,setIf_l,Cs.setW,Cs.note]):Pr:=h
theorem a_seekF (victim:Int):A3 0 x.2 (seekF q x victim).2:=by unfold seekF stepD;exact tmxg1
theorem a_stealF:A3 0 x.2 (stealF q x).2:=by unfold stealF stepD;exact tmxg1
theorem a_popF:A3 0 x.2 (popF q x).2:=by unfold popF stepD;exact tmxg1
theorem a_pushF:A3 0 x.2 (pushF q x).2:=by unfold pushF stepD thenF looksOnF checksF decideF dueF stopF;exact tmxg1
theorem a_joinedF:A3 0 x.2 (joinedF q x).2:=by unfold joinedF;exact tmxg1
theorem a_spawnF:A3 0 x.2 (spawnF q x).2:=by unfold spawnF;exact tmxg1
theorem a_arriveF:A3 0 x.2 (arriveF q x).2:=by unfold arriveF;exact tmxg1
theorem a_resumeF:A3 0 x.2 (resumeF q x).2:=by unfold resumeF;exact tmxg1
theorem a_advanceF:A3 1 x.2 (advanceF q x).2:=by unfold advanceF looksOnF checksF noteF;exact tmxg1
theorem a_peekF:A3 0 x.2 (peekF q x).2:=by unfold peekF checksF decideF dueF;exact tmxg1
theorem a_checkF2:A3 0 x.2 (checkF2 q x).2:=by unfold checkF2 stopF decideF dueF;exact tmxg1
theorem a_lookF:A3 0 x.2 (lookF q x).2:=by unfold lookF dueF checksF stopF;exact tmxg1
theorem a_parksF:A3 0 x.2 (parksF q x).2:=by unfold parksF;exact tmxg1
theorem a_endsF:A3 1 x.2 (endsF q x).2:=by unfold endsF checksF noteF;exact tmxg1
theorem a_closesF:A3 0 x.2 (closesF q x).2:=by unfold closesF;exact tmxg1
theorem a_finishF:A3 0 x.2 (finishF q x).2:=by unfold finishF;exact tmxg1
theorem a_napsF:A3 0 x.2 (napsF q x).2:=by unfold napsF;exact tmxg1
theorem a_countF:A3 0 x.2 (countF q x).2:=by unfold countF;exact tmxg1
theorem a_nameF2:A3 0 x.2 (nameF2 q x).2:=by unfold nameF2;exact tmxg1
theorem a_joinsF:A3 2 x.2 (joinsF q x).2:=by unfold joinsF noteF;exact tmxg1
theorem Y10 (w:Wk) (id:Int):WkOk (w.runs id):=by unfold Wk.runs;constructor<;>simp
theorem X38 (w:Wk) (id:Int):WkOk (w.loops id):=by unfold Wk.loops;constructor<;>simp
theorem Y98 (w:Wk) (s:Cs) (id:Int):WkOk (w.takes s id):=by
 unfold Wk.takes;split
 ·exact X38 _ _
 ·exact Y10 _ _
theorem Y99 (w:Wk):WkOk w.goes:=by unfold Wk.goes;constructor<;>simp
theorem Y11 (w:Wk) (id:Int) (th:Th) (h:th≠.none):WkOk (w.pushes id th):=by unfold Wk.pushes;constructor<;>simp[h]
theorem tmxg3 {Pr:Prop} (h:Pr:=by (try dsimp only);(repeat' split);all_goals (first|exact Y98 _ _ _|exact Y10 _ _|exact X38 _ _|exact Y99 _|(refine Y11 _ _ _ ?_;first|(split<;>simp;done)|(simp;done))|(constructor<;>simp[hs,hd,dqStep];done)|(exfalso;simp_all;done)|skip)):Pr:=h
theorem k_stealF (h:WkOk x.1) (hs:x.1.state=1):WkOk (stealF q x).1:=by obtain ⟨d,hd⟩:=h.dq (.inl hs);unfold stealF stepD;exact tmxg3
theorem k_popF (h:WkOk x.1) (hs:x.1.state=2):WkOk (popF q x).1:=by obtain ⟨d,hd⟩:=h.dq (.inr (.inl hs));unfold popF stepD;exact tmxg3
theorem tmxg2 {Pr:Prop} (h:Pr:=by (try dsimp only);(repeat' split);all_goals (first|exact Y98 _ _ _|exact Y10 _ _|exact X38 _ _|exact Y99 _|(refine Y11 _ _ _ ?_;first|(split<;>simp;done)|(simp;done))|(constructor<;>simp[*];done)|(exfalso;simp_all;done)|skip)):Pr:=h
theorem k_pushF (h:WkOk x.1) (hs:x.1.state=3):WkOk (pushF q x).1:=by
 obtain ⟨d,hd⟩:=h.dq (.inr (.inr hs));have hth:=h.th hs;unfold pushF stepD thenF looksOnF checksF decideF dueF stopF
 try dsimp only
 repeat' split
 all_goals first|exact Y98 _ _ _|exact Y10 _ _|exact X38 _ _|exact Y99 _|(refine Y11 _ _ _ ?_;first|(split<;>simp;done)|(simp;done))|(constructor<;>simp[hs,hd,dqStep,hth];done)|(exfalso;simp_all;done)|skip
theorem k_joinedF:WkOk (joinedF q x).1:=by unfold joinedF;exact tmxg2
theorem k_spawnF:WkOk (spawnF q x).1:=by unfold spawnF;exact tmxg2
theorem k_arriveF:WkOk (arriveF q x).1:=by unfold arriveF;exact tmxg2
theorem k_resumeF:WkOk (resumeF q x).1:=by unfold resumeF;exact tmxg2
theorem k_advanceF:WkOk (advanceF q x).1:=by unfold advanceF looksOnF checksF noteF;exact tmxg2
theorem k_peekF:WkOk (peekF q x).1:=by unfold peekF checksF decideF dueF;exact tmxg2
theorem k_checkF2 (h:WkOk x.1) (hs:x.1.state=11):WkOk (checkF2 q x).1:=by obtain ⟨d,hd⟩:=h.right hs;unfold checkF2 stopF decideF dueF;exact tmxg3
theorem k_lookF:WkOk (lookF q x).1:=by unfold lookF dueF checksF stopF;exact tmxg2
theorem k_parksF (h:WkOk x.1) (hs:x.1.state=13):WkOk (parksF q x).1:=by obtain ⟨d,hd⟩:=h.park hs;unfold parksF;exact tmxg3
theorem k_endsF:WkOk (endsF q x).1:=by unfold endsF checksF noteF;exact tmxg2
theorem k_closesF (h:WkOk x.1) (hs:x.1.state=15):WkOk (closesF q x).1:=by obtain ⟨d,hd⟩:=h.wake hs;unfold closesF;exact tmxg3
theorem k_dropF:WkOk (dropF q x).1:=by unfold dropF nextF;exact tmxg2
theorem k_finishF:WkOk (finishF q x).1:=by unfold finishF;exact tmxg2
theorem k_completeF:WkOk (completeF x).1:=by unfold completeF;exact tmxg2
theorem k_napsF (h:WkOk x.1) (hs:x.1.state=20):WkOk (napsF q x).1:=by obtain ⟨d,hd⟩:=h.nap hs;unfold napsF;exact tmxg3
theorem k_countF:WkOk (countF q x).1:=by unfold countF;exact tmxg2
theorem k_nameF2:WkOk (nameF2 q x).1:=by unfold nameF2;exact tmxg2
theorem k_joinsF:WkOk (joinsF q x).1:=by unfold joinsF noteF;exact tmxg2
end
end Go.Proofs.YtelibaobkcokdaaGreat.Mx
namespace Go.Proofs.YtelibaobkcokdaaGreat.Mx
set_option linter.unusedVariables false
set_option linter.unusedSimpArgs false
open Go Go.Kx Go.Proofs Go.Proofs.YtelibaobkcokdaaGreat
set_option maxRecDepth 8000
def Fr2 (s:Cs):Prop:=s.Fresh∧∀x∈s.back,x≤s.fresh
structure G3 (n b:Nat) (s s':Cs):Prop where
 hl:s'.held.length=s.held.length
 lg:s'.log.length≤s.log.length+n
 bk:s'.back.length≤s.back.length+b
 fr:s.held.length≤1000000→Fr2 s→Fr2 s'
theorem A3.g {n:Nat} {s s':Cs} (h:A3 n s s') (b:Nat):G3 n b s s':=
 ⟨by rw[h.2.1],h.2.2.2,by rw[h.1];omega,fun _ hF=>⟨fresh_of hF.1 ⟨h.1,h.2.1,h.2.2.1⟩,by rw[h.1,h.2.2.1];exact hF.2⟩⟩
theorem G3.trans {n m k b c d:Nat} {s s' s'':Cs} (h:G3 n b s s') (h':G3 m c s' s'') (e:n+m≤k) (e2:b+c≤d):G3 k d s s'':=
 ⟨h'.hl.trans h.hl,by have:=h.lg;have:=h'.lg;omega,by have:=h.bk;have:=h'.bk;omega,fun hl hF=>h'.fr (by rw[h.hl];exact hl) (h.fr hl hF)⟩
theorem Qz (l:List Bool) (i j:Nat) (b:Bool):(l.set i b).getD j false=if i=j∧i < l.length then b else l.getD j false:=by
 rw[List.getD_eq_getElem?_getD,List.getElem?_set,List.getD_eq_getElem?_getD];by_cases h:i=j
 ·subst h;by_cases c:i < l.length
  ·simp[c]
  ·simp[c]
 ·simp[h]
theorem Y53 (s:Cs) (id:Int):s.isHeld id=true↔(0 < id∧id < s.held.length)∧s.held.getD id.toNat false=true:=by unfold Cs.isHeld;simp
theorem free_g (s:Cs) (id:Int):G3 0 1 s (s.free id):=by
 unfold Cs.free;split
 ·rename_i h;obtain ⟨⟨h1,h2⟩,h3⟩:=(Y53 s id).1 h;refine ⟨by simp,by simp,by simp,fun _ hF=>?_⟩;obtain ⟨⟨f1,f2,f3,f4⟩,f5⟩:=hF
  have hidF:id≤s.fresh:=by
   by_cases c:id≤s.fresh
   ·exact c
   ·have:=f4 id.toNat ka;rw[h3] at this;cases this
  refine ⟨⟨?_,?_,f3,?_⟩,?_⟩
  ·refine List.nodup_append.2 ⟨f1,by simp,?_⟩;intro a ha b hb e;simp at hb;subst hb;subst e;have:=(f2 _ ha).2;rw[h3] at this;cases this
  ·intro x hx;rcases List.mem_append.1 hx with hx|hx
   ·refine ⟨(f2 x hx).1,?_⟩;rw[Qz];split
    ·rfl
    ·exact (f2 x hx).2
   ·simp at hx;subst hx;refine ⟨by omega,?_⟩;rw[Qz,if_pos ⟨rfl,by omega⟩]
  ·intro i hi;rw[Qz];split
   ·rfl
   ·exact f4 i hi
  ·intro x hx;rcases List.mem_append.1 hx with hx|hx
   ·exact f5 x hx
   ·simp at hx;subst hx;exact hidF
 ·exact (A3.refl 0 s).g 1
theorem make_g (q:Pm) (s:Cs) (f:Fm):G3 0 0 s (makeF q s f).2:=by
 unfold makeF Cs.make Cs.take
 cases hn:s.nextId with
 | none=>simp only[hn];exact A3.g ⟨X35 ..,X36 ..,X37 ..,by rw[Y52];exact Nat.le_refl _⟩ 0
 | some x=>
  obtain ⟨id,back,fresh⟩:=x;simp only[hn];unfold Cs.nextId at hn
  cases hg:s.back.getLast? with
  | some y=>
   rw[hg] at hn;cases hn;obtain ⟨l,hl⟩:=List.getLast?_eq_some_iff.1 hg;have hd:s.back.dropLast=l:=by rw[hl];simp
   refine ⟨by simp,by simp,by simp,fun _ hF=>?_⟩;obtain ⟨⟨f1,f2,f3,f4⟩,f5⟩:=hF;rw[hl] at f1 f2 f5;have hid:id≤s.fresh:=f5 id ke;have hid0:=(f2 id ke).1;simp only[Fr2,Cs.Fresh,hd];refine ⟨⟨(List.nodup_append.1 f1).1,?_,f3,?_⟩,fun x hx=>f5 x (List.mem_append_left _ hx)⟩
   ·intro x hx;have h2:=f2 x (List.mem_append_left _ hx);refine ⟨h2.1,?_⟩;have hne:x≠id:=(List.nodup_append.1 f1).2.2 x hx id ke;rw[Qz,if_neg ka];exact h2.2
   ·intro i hi;rw[Qz,if_neg ka];exact f4 i hi
  | none=>
   rw[hg] at hn;simp only at hn;split at hn
   ·cases hn
   ·rename_i hlt;cases hn;have hb:s.back=[]:=List.getLast?_eq_none_iff.1 hg;refine ⟨by simp,by simp,by simp,fun hl hF=>?_⟩;obtain ⟨⟨f1,f2,f3,f4⟩,f5⟩:=hF;have hw:w64 (s.fresh+1)=s.fresh+1:=w64_id ka ka;rw[hw] at hlt;simp only[Fr2,Cs.Fresh,hw];refine ⟨⟨List.nodup_nil,by simp,by omega,?_⟩,by simp⟩;intro i hi;rw[Qz,if_neg ka];exact f4 i ka
end Go.Proofs.YtelibaobkcokdaaGreat.Mx
namespace Go.Proofs.YtelibaobkcokdaaGreat.Mx
set_option linter.unusedSectionVars false
set_option linter.unusedVariables false
set_option linter.unusedSimpArgs false
open Go Go.Kx Go.Proofs Go.Proofs.YtelibaobkcokdaaGreat
set_option maxRecDepth 8000
theorem X54 {q:Pm} {s:Cs} {f:Fm} {r:Option Int×Cs} (h:makeF q s f=r):G3 0 0 s r.2:=h ▸ make_g q s f
theorem A3.same {n:Nat} {s s':Cs} (h1:s'.back=s.back) (h2:s'.held=s.held) (h3:s'.fresh=s.fresh) (h4:s'.log=s.log):A3 n s s':=⟨h1,h2,h3,by rw[h4];exact Nat.le_add_right _ _⟩
theorem setFr_a (s:Cs) (id:Int) (f:Fm):A3 0 s (s.setFr id f):=by simp[A3,Q46,Q47,Q48,Z87]
theorem setIf_a (s:Cs) (c:Bool) (id:Int) (f:Fm):A3 0 s (s.setIf c id f):=by simp[A3,Y95,Y96,Y97,setIf_l]
theorem stop_a (s:Cs) (a b:Int):A3 0 s (s.stop a b):=by simp[A3,X35,X36,X37,Y52]
theorem G3.mono {n m b c:Nat} {s s':Cs} (h:G3 n b s s') (e:n≤m) (e2:b≤c):G3 m c s s':=⟨h.hl,by have:=h.lg;omega,by have:=h.bk;omega,h.fr⟩
section
variable {q:Pm} {x:WC}
theorem g_dropF:G3 0 1 x.2 (dropF q x).2:=by
 unfold dropF nextF;dsimp only;have hg:=free_g x.2 x.1.holds;generalize x.2.free x.1.holds=s at hg;have h2:∀ws,G3 0 1 x.2 (s.setW ws):=fun ws=>G3.trans (m:=0) (c:=0) hg (A3.g oI 0) ka ka
 repeat' split
 all_goals exact h2 _
theorem g_completeF:G3 1 1 x.2 (completeF x).2:=by unfold completeF;dsimp only;refine G3.trans (n:=1) (b:=0) (m:=0) (c:=1) (s':=Cs.setFr (x.2.note ⟨5,(x.2.at x.1.holds).serial,(x.2.at x.1.holds).started,0⟩) (x.2.at x.1.holds).parent _) (A3.g ?_ 0) (free_g _ _) (Nat.le_refl _) (Nat.le_refl _);simp[A3,Q46,Q47,Q48,Z87,Cs.note]
theorem g_startF:G3 0 0 x.2 (startF q x).2:=by
 unfold startF;dsimp only;split
 ·rename_i s h;exact X54 h
 ·rename_i id s h;exact (X54 h).trans (A3.g (setIf_a ..) 0) (Nat.le_refl _) (Nat.le_refl _)
theorem k_startF (hk:WkOk x.1):WkOk (startF q x).1:=by
 unfold startF;dsimp only;split
 ·exact hk
 ·constructor<;>simp
theorem g_loopF:G3 0 0 x.2 (loopF q x).2:=by
 unfold loopF;dsimp only
 repeat' split
 ·exact g_startF
 all_goals exact A3.g oI 0
theorem k_loopF (hk:WkOk x.1):WkOk (loopF q x).1:=by
 unfold loopF;dsimp only
 repeat' split
 ·exact k_startF hk
 all_goals (constructor<;>simp)
theorem g_forkF (f:Fm) (pc fn:Int):G3 0 0 x.2 (forkF q x f pc fn).2:=by
 unfold forkF;split
 ·rename_i s h;exact X54 h
 ·rename_i id s h;exact (X54 h).trans (A3.g (setIf_a ..) 0) (Nat.le_refl _) (Nat.le_refl _)
theorem k_forkF (hk:WkOk x.1) (f:Fm) (pc fn:Int):WkOk (forkF q x f pc fn).1:=by
 unfold forkF;split
 ·exact hk
 ·constructor<;>simp
theorem g_pipeF (f:Fm) (pc fn:Int):G3 0 0 x.2 (pipeF q x f pc fn).2:=by
 unfold pipeF;dsimp only;have h0:G3 0 0 x.2 { x.2 with serial:=w64 (x.2.serial+1) }:=A3.g oI 0;split
 ·rename_i s h;exact h0.trans (X54 h) (Nat.le_refl _) (Nat.le_refl _)
 ·rename_i id s h;exact (h0.trans (X54 h) (Nat.le_refl _) (Nat.le_refl _)).trans (A3.g (setIf_a ..) 0) (Nat.le_refl _) (Nat.le_refl _)
theorem k_pipeF (hk:WkOk x.1) (f:Fm) (pc fn:Int):WkOk (pipeF q x f pc fn).1:=by
 unfold pipeF;dsimp only;split
 ·exact hk
 ·exact X38 _ _
theorem g_goOnF (f:Fm) (pc:Int) (e:Ef):A3 0 x.2 (goOnF x f pc e).2:=by
 unfold goOnF;dsimp only
 repeat' split
 all_goals simp[A3,Q46,Q47,Q48,Z87,X35,X36,X37,Y52]
theorem k_goOnF (hk:WkOk x.1) (f:Fm) (pc:Int) (e:Ef):WkOk (goOnF x f pc e).1:=by
 unfold goOnF;dsimp only
 repeat' split
 all_goals first|exact hk|(constructor<;>simp)
theorem g_leaveF (f:Fm):A3 0 x.2 (leaveF x f).2:=by
 unfold leaveF
 repeat' split
 all_goals simp[A3,Q46,Q47,Q48,Z87,X35,X36,X37,Y52]
theorem k_leaveF (hk:WkOk x.1) (f:Fm):WkOk (leaveF x f).1:=by
 unfold leaveF
 repeat' split
 all_goals first|exact hk|(constructor<;>simp)
theorem g_backF (f:Fm):G3 0 1 x.2 (backF x f).2:=by
 unfold backF;split
 ·split
  ·exact A3.g (setFr_a ..) 1
  ·exact (A3.refl 0 _).g 1
 ·split
  ·exact A3.g (stop_a ..) 1
  ·exact free_g _ _
theorem k_backF (hk:WkOk x.1) (f:Fm):WkOk (backF x f).1:=by
 unfold backF
 repeat' split
 all_goals first|exact hk|(constructor<;>simp)
theorem g_turnF (f:Fm) (pc:Int) (e:Ef):G3 0 1 x.2 (turnF q x f pc e).2:=by
 unfold turnF;split
 ·exact (g_forkF ..).mono (Nat.le_refl _) ka
 split
 ·exact (g_pipeF ..).mono (Nat.le_refl _) ka
 split
 ·exact (g_goOnF ..).g 1
 split
 ·exact (g_leaveF ..).g 1
 split
 ·exact g_backF ..
 ·exact (A3.refl 0 _).g 1
theorem k_turnF (hk:WkOk x.1) (f:Fm) (pc:Int) (e:Ef):WkOk (turnF q x f pc e).1:=by
 unfold turnF;split
 ·exact k_forkF hk ..
 split
 ·exact k_pipeF hk ..
 split
 ·exact k_goOnF hk ..
 split
 ·exact k_leaveF hk ..
 split
 ·exact k_backF hk ..
 ·exact hk
theorem g_instrF (f:Fm) (r:Int×List Int×Ef×Int):G3 0 1 x.2 (instrF q x f r).2:=by
 unfold instrF;dsimp only;split
 ·split<;>exact A3.g oI 1
 split
 ·exact A3.g (stop_a ..) 1
 split
 ·split<;>exact A3.g (by simp[A3,Q46,Q47,Q48,Z87,X35,X36,X37,Y52]) 1
 split
 ·split
  ·exact A3.g (stop_a ..) 1
  ·rename_i s hs
   have:s={ x.2 with out:=x.2.out++[r.2.2.1.v] }:=by
    unfold emitC at hs;split at hs
    ·cases hs
    ·cases hs;rfl
   subst this;exact A3.g (by simp[A3,Q46,Q47,Q48,Z87]) 1
 split
 ·exact A3.g (setFr_a ..) 1
 ·exact g_turnF ..
theorem k_instrF (hk:WkOk x.1) (f:Fm) (r:Int×List Int×Ef×Int):WkOk (instrF q x f r).1:=by
 unfold instrF;dsimp only;split
 ·split
  ·constructor<;>simp
  ·exact Y99 _
 split
 ·exact hk
 split
 ·split<;>exact hk
 split
 ·split<;>exact hk
 split
 ·exact hk
 ·exact k_turnF hk ..
theorem begin_a (s:Cs) (id:Int) (f:Fm):A3 1 s (beginC s id f):=by unfold beginC;split<;>simp[A3,Q46,Q47,Q48,Z87,Cs.note]
theorem g_runF:G3 1 1 x.2 (runF q x).2:=by unfold runF;dsimp only;exact ((begin_a x.2 x.1.holds (x.2.at x.1.holds)).g 0).trans (g_instrF (x:=(x.1,beginC x.2 x.1.holds (x.2.at x.1.holds))) ..) (Nat.le_refl _) (Nat.le_refl _)
theorem k_runF (hk:WkOk x.1):WkOk (runF q x).1:=by unfold runF;dsimp only;exact k_instrF (x:=(x.1,beginC x.2 x.1.holds (x.2.at x.1.holds))) hk ..
theorem k_seekF (hk:WkOk x.1) (hs:x.1.state=0) (victim:Int):WkOk (seekF q x victim).1:=by
 unfold seekF stepD;dsimp only;split
 ·constructor<;>simp[hs]
 ·constructor<;>simp[dqStep]
theorem g_actF (hk:WkOk x.1) (hs:x.1.state≠0):G3 2 1 x.2 (actF q x).2∧WkOk (actF q x).1:=by
 have hst:=hk.st;have hcs:x.1.state=1∨x.1.state=2∨x.1.state=3∨x.1.state=4∨x.1.state=5∨x.1.state=6∨x.1.state=7∨x.1.state=8∨x.1.state=9∨x.1.state=10∨x.1.state=11∨x.1.state=12∨x.1.state=13∨x.1.state=14∨x.1.state=15∨x.1.state=16∨x.1.state=17∨x.1.state=18∨x.1.state=19∨x.1.state=20∨x.1.state=21∨x.1.state=22∨x.1.state=23∨x.1.state=24:=by omega
 rcases hcs with e|e|e|e|e|e|e|e|e|e|e|e|e|e|e|e|e|e|e|e|e|e|e|e
 ·have eb:actF q x=stealF q x:=by simp[actF,e]
  rw[eb];exact ⟨((a_stealF).g 1).mono ka ka,k_stealF hk e⟩
 ·have eb:actF q x=popF q x:=by simp[actF,e]
  rw[eb];exact ⟨((a_popF).g 1).mono ka ka,k_popF hk e⟩
 ·have eb:actF q x=pushF q x:=by simp[actF,e]
  rw[eb];exact ⟨((a_pushF).g 1).mono ka ka,k_pushF hk e⟩
 ·have eb:actF q x=runF q x:=by simp[actF,e]
  rw[eb];exact ⟨(g_runF).mono ka ka,k_runF hk⟩
 ·have eb:actF q x=joinedF q x:=by simp[actF,e]
  rw[eb];exact ⟨((a_joinedF).g 1).mono ka ka,k_joinedF⟩
 ·have eb:actF q x=spawnF q x:=by simp[actF,e]
  rw[eb];exact ⟨((a_spawnF).g 1).mono ka ka,k_spawnF⟩
 ·have eb:actF q x=arriveF q x:=by simp[actF,e]
  rw[eb];exact ⟨((a_arriveF).g 1).mono ka ka,k_arriveF⟩
 ·have eb:actF q x=resumeF q x:=by simp[actF,e]
  rw[eb];exact ⟨((a_resumeF).g 1).mono ka ka,k_resumeF⟩
 ·have eb:actF q x=advanceF q x:=by simp[actF,e]
  rw[eb];exact ⟨((a_advanceF).g 1).mono ka ka,k_advanceF⟩
 ·have eb:actF q x=peekF q x:=by simp[actF,e]
  rw[eb];exact ⟨((a_peekF).g 1).mono ka ka,k_peekF⟩
 ·have eb:actF q x=checkF2 q x:=by simp[actF,e]
  rw[eb];exact ⟨((a_checkF2).g 1).mono ka ka,k_checkF2 hk e⟩
 ·have eb:actF q x=lookF q x:=by simp[actF,e]
  rw[eb];exact ⟨((a_lookF).g 1).mono ka ka,k_lookF⟩
 ·have eb:actF q x=parksF q x:=by simp[actF,e]
  rw[eb];exact ⟨((a_parksF).g 1).mono ka ka,k_parksF hk e⟩
 ·have eb:actF q x=endsF q x:=by simp[actF,e]
  rw[eb];exact ⟨((a_endsF).g 1).mono ka ka,k_endsF⟩
 ·have eb:actF q x=closesF q x:=by simp[actF,e]
  rw[eb];exact ⟨((a_closesF).g 1).mono ka ka,k_closesF hk e⟩
 ·have eb:actF q x=dropF q x:=by simp[actF,e]
  rw[eb];exact ⟨(g_dropF).mono ka ka,k_dropF⟩
 ·have eb:actF q x=finishF q x:=by simp[actF,e]
  rw[eb];exact ⟨((a_finishF).g 1).mono ka ka,k_finishF⟩
 ·have eb:actF q x=completeF x:=by simp[actF,e]
  rw[eb];exact ⟨(g_completeF).mono ka ka,k_completeF⟩
 ·have eb:actF q x=loopF q x:=by simp[actF,e]
  rw[eb];exact ⟨(g_loopF).mono ka ka,k_loopF hk⟩
 ·have eb:actF q x=napsF q x:=by simp[actF,e]
  rw[eb];exact ⟨((a_napsF).g 1).mono ka ka,k_napsF hk e⟩
 ·have eb:actF q x=startF q x:=by simp[actF,e]
  rw[eb];exact ⟨(g_startF).mono ka ka,k_startF hk⟩
 ·have eb:actF q x=countF q x:=by simp[actF,e]
  rw[eb];exact ⟨((a_countF).g 1).mono ka ka,k_countF⟩
 ·have eb:actF q x=nameF2 q x:=by simp[actF,e]
  rw[eb];exact ⟨((a_nameF2).g 1).mono ka ka,k_nameF2⟩
 ·have eb:actF q x=joinsF q x:=by simp[actF,e]
  rw[eb];exact ⟨((a_joinsF).g 1).mono ka ka,k_joinsF⟩
theorem g_wkStep (hk:WkOk x.1) (victim:Int):G3 2 1 x.2 (wkStep q x victim).2∧WkOk (wkStep q x victim).1:=by
 unfold wkStep;split
 ·exact ⟨(A3.refl 2 _).g 1,hk⟩
 ·have h0:G3 0 0 x.2 { x.2 with steps:=w64 (x.2.steps+1) }:=A3.g oI 0;dsimp only;split
  ·rename_i hs;exact ⟨h0.trans (((a_seekF victim (x:=(x.1,{ x.2 with steps:=w64 (x.2.steps+1) }))).g 1).mono (Nat.zero_le 2) (Nat.le_refl 1)) ka ka,k_seekF (x:=(x.1,{ x.2 with steps:=w64 (x.2.steps+1) })) hk hs victim⟩
  ·rename_i hs;obtain ⟨g1,g2⟩:=g_actF (q:=q) (x:=(x.1,{ x.2 with steps:=w64 (x.2.steps+1) })) hk hs;exact ⟨h0.trans g1 ka ka,g2⟩
end
structure McOk (m:Mc) (n:Nat):Prop where
 wk:∀w∈m.l,WkOk w
 fr:Fr2 m.c
 hl:m.c.held.length≤1000000
 lg:m.c.log.length≤2 * n
 bk:m.c.back.length≤n
theorem wkNew_ok (n:Int):WkOk (wkNew n):=by unfold wkNew;constructor<;>simp
theorem McOk.step {m:Mc} {n:Nat} (h:McOk m n) (q:Pm) (worker victim:Int):McOk (m.step q worker victim) (n+1):=by
 unfold Mc.step;split
 ·exact ⟨h.wk,h.fr,h.hl,by have:=h.lg;omega,by have:=h.bk;omega⟩
 ·have hw:WkOk (m.l.getD (pickN q worker) (wkNew 0)):=by
   rw[List.getD_eq_getElem?_getD]
   cases e:m.l[pickN q worker]? with
   | none=>exact wkNew_ok 0
   | some w=>exact h.wk w (List.mem_of_getElem? e)
  obtain ⟨g,k⟩:=g_wkStep (q:=q) (x:=(m.l.getD (pickN q worker) (wkNew 0),m.c)) hw victim;refine ⟨fun w hm=>?_,g.fr h.hl h.fr,by dsimp only;rw[g.hl];exact h.hl,by have:=g.lg;have:=h.lg;dsimp only at *;omega,by have:=g.bk;have:=h.bk;dsimp only at *;omega⟩;rcases List.mem_or_eq_of_mem_set hm with hm|rfl
  ·exact h.wk w hm
  ·exact k
end Go.Proofs.YtelibaobkcokdaaGreat.Mx
namespace Go.Proofs.YtelibaobkcokdaaGreat.Mx
set_option linter.unusedVariables false
set_option linter.unusedSimpArgs false
open Go Go.Kx Go.Proofs Go.Proofs.YtelibaobkcokdaaGreat
set_option maxRecDepth 8000
theorem mk0_fr2 (q:Pm) (M:Nat) (inp:List Int) (hF:(q.F+1).toNat≤1000000):G3 0 0 (cs0 q M inp) (mk0 q M inp)∧Fr2 (mk0 q M inp):=by
 have hl:(cs0 q M inp).held.length≤1000000:=by simp[cs0];omega
 have h0:Fr2 (cs0 q M inp):=by refine ⟨⟨List.nodup_nil,by simp[cs0],by simp[cs0],fun i hi=>?_⟩,by simp[cs0]⟩;have e:(cs0 q M inp).held=List.replicate (q.F+1).toNat false:=rfl;rw[e,List.getD_eq_getElem?_getD,List.getElem?_replicate];split<;>rfl
 have hg:=make_g q (cs0 q M inp) { fm0 with kind:=1 }
 have hm:G3 0 0 (cs0 q M inp) (mk0 q M inp):=by
  unfold mk0;unfold makeF at hg;split
  ·rename_i id s h;rw[h] at hg;exact hg
  ·exact (A3.refl 0 _).g 0
 exact ⟨hm,hm.fr hl h0⟩
theorem mkM_ok {q:Pm} (hq:q.Ok) (M:Nat) (inp:List Int):McOk (mkM q M inp) 0:=by
 have hF:=hq.2.2.1;obtain ⟨g,f⟩:=mk0_fr2 q M inp ka;refine ⟨fun w hw=>?_,f,?_,?_,?_⟩
 ·rcases List.mem_or_eq_of_mem_set hw with hw|rfl
  ·obtain ⟨i,_,rfl⟩:=List.mem_map.1 hw;exact wkNew_ok i
  ·exact Y10 _ _
 ·have:=g.hl;have e:(cs0 q M inp).held.length=(q.F+1).toNat:=by simp[cs0]
  show (mk0 q M inp).held.length≤1000000;omega
 ·have:=g.lg;have e:(cs0 q M inp).log.length=0:=rfl;show (mk0 q M inp).log.length≤0;omega
 ·have:=g.bk;have e:(cs0 q M inp).back.length=0:=rfl;show (mk0 q M inp).back.length≤0;omega
theorem Y27 {jm:Nat} {q:Pm} {pl:Pl} {σ:Kx.St} {m:Mc} {n:Nat} (h:MaM jm q pl σ m) (hk:McOk m n) (hn:n≤400000000) (worker victim:Int):
  FnG Tryz.prog 21 [.ref jm 0 0,.agg [.v (.int .i64 worker),.v (.int .i64 victim)]] σ fun a σ'=>∃pl',a=aBool (m.step q worker victim).ended∧MaM jm q pl' σ' (m.step q worker victim)∧Ext pl pl' σ σ':=
 Y26 h hk.wk (by have:=hk.lg;omega) (by have:=hk.bk;omega) hk.fr.1 worker victim
def three:List (List Ix):=[[⟨1,7,3,0⟩,⟨1,6,1,0⟩,⟨22,1,0,0⟩,⟨0,0,0,0⟩],[⟨19,7,6,0⟩,⟨4,7,7,6⟩,⟨3,5,5,6⟩,⟨23,6,0,0⟩,⟨17,5,0,0⟩,⟨0,0,0,0⟩,⟨25,0,0,0⟩]]
def q3:Pm:=⟨1,2,8,8,9,false,false,three⟩
def r3:Mc:=Mc.run q3 (mkM q3 0 []) (List.replicate 400 (0,0))
theorem r3_ok:r3.c.status=1∧r3.c.out=[1,2,3]∧usedN r3.c.held=1∧3≤r3.c.peak∧r3.ended=true:=by decide +kernel
end Go.Proofs.YtelibaobkcokdaaGreat.Mx
namespace Go.Proofs.YtelibaobkcokdaaGreat.Mx
set_option linter.unusedSectionVars false
set_option linter.unusedVariables false
set_option linter.unusedSimpArgs false
open Go Go.Kx Go.Proofs Go.Proofs.YtelibaobkcokdaaGreat
set_option maxRecDepth 8000
def aVtsN (l:List Vt):AV:=if l=[] then .sl 0 [] .nil else .sl l.length (l.flatMap aVt) .none
theorem vt_len (l:List Vt):(l.flatMap aVt).length=l.length * 4:=by
 induction l with
 | nil=>rfl
 | cons x l ih=>rw[List.flatMap_cons,List.length_append,ih,YX,List.length_cons];omega
theorem vt_one (l:List Vt):(l.flatMap aVt).all AV.one=true:=by rw[List.all_flatMap];simp only[show ∀x,(aVt x).all AV.one=true from fun x=>rfl];simp
theorem Clone_ev {σ:Kx.St} {d:List Vt} {t:Tok} (hd:d.length≤1000000000) (ht:t=.nil↔d=[]):FnG Tryz.prog 110 [.sl d.length (d.flatMap aVt) t] σ fun a σ'=>a=aVtsN d∧σ'=σ:=by
 refine Q3 QN.2 mixed rfl ?_;simp only[QN,qH];by_cases c:d=[]
 ·have e:aVtsN d=.sl 0 [] .nil:=if_pos c;rw[e,ht.2 c,c];have hn:PF.av (.eqn false 1) [.sl 0 [] .nil]=some (.v (.bool true)):=rfl;push_cast -implicitDefEqProofs[List.length_nil,List.flatMap_nil,hn];exact om
 ·have e:aVtsN d=.sl d.length (d.flatMap aVt) .none:=if_neg c;rw[e];have hl:0 < d.length:=List.length_pos_iff.2 c
  have hn:PF.av (.eqn false 1) [.sl d.length (d.flatMap aVt) t]=some (.v (.bool false)):=by
   have hl0:d.length≠0:=by omega
   have htn:t≠.nil:=fun e=>c (ht.1 e);cases t<;>first|exact absurd rfl htn|(simp[PF.av,c];done)|(simp[PF.av,hl0];done)|(simp[PF.av];done)
  push_cast -implicitDefEqProofs[hn];refine QA (sz:=4) ke ke ?_;push_cast -implicitDefEqProofs;refine QP (n:=0) (cs:=[]) (m:=d.length) rfl rfl (vt_len d) (vt_one d) rfl ka ka ?_;push_cast -implicitDefEqProofs;exact om
section
variable {q:Pm} {pl:Pl} {σ:Kx.St} {L:List Wk} {s:Cs}
theorem log_all_a (h:MM q pl σ L s):FnG Tryz.prog 111 [.ref (pl.p .lo) 0 0] σ fun a σ'=>a=.sl s.log.length (s.log.flatMap aVt) (tokT pl.lv (pl.p .lt) 4)∧σ'=σ:=by refine Q3 X30.2 mixed rfl ?_;simp only[X30,qH];have hlo:=h.at_ .lo _ rfl;push_cast -implicitDefEqProofs[hlo];exact om
theorem log_All_a (h:MM q pl σ L s) (hb:s.log.length≤1000000000):FnG Tryz.prog 59 [.ref (pl.p .lo) 0 0] σ fun a σ'=>a=aVtsN s.log∧σ'=σ:=by
 refine Q3 X29.2 mixed rfl ?_;simp only[X29,qH];have ho:=h.sd.l0;push_cast -implicitDefEqProofs;refine Q4 (log_all_a h) ?_;push_cast -implicitDefEqProofs;refine Q0 (Clone_ev hb ?_) ?_
 ·cases hv:pl.lv with
  | none=>simp only[tokT,true_iff];exact ho.1 hv
  | some v=>
   simp only[tokT];constructor
   ·intro e;cases e
   ·intro e;have:=ho.2 e;rw[hv] at this;cases this
 rintro a σ' ⟨rfl,hs⟩;rw[hs];clear hs;push_cast -implicitDefEqProofs;exact om
end
theorem Xh {jm:Nat} {q:Pm} {pl:Pl} {σ:Kx.St} {m:Mc} (h:MaM jm q pl σ m) (hb:m.c.log.length≤1000000000):FnG Tryz.prog 23 [.ref jm 0 0] σ fun a σ'=>a=aVtsN m.c.log∧σ'=σ:=by refine Q3 Q34.2 mixed rfl ?_;simp only[Q34,qH];obtain ⟨t,ht⟩:=h.mo;push_cast -implicitDefEqProofs[ht];refine Q4 (Y50 h.mm) ?_;push_cast -implicitDefEqProofs[ht];refine Q4 (log_All_a h.mm hb) ?_;push_cast -implicitDefEqProofs;exact om
end Go.Proofs.YtelibaobkcokdaaGreat.Mx
