/- MachineThrottle: the walk. -/
import Derived.Test.YtelibaobkcokdaaGreatTH2G35
namespace Go.Proofs.YtelibaobkcokdaaGreat.Mx
set_option linter.unusedVariables false
set_option linter.unusedSimpArgs false
open Go Go.Kx Go.Proofs Go.Proofs.YtelibaobkcokdaaGreat
set_option maxRecDepth 8000
set_option maxHeartbeats 16000000 in
theorem X63 (x:Int×List (List Ix)) (inp:List Int) (y:Pm) (sc:List (Int×Int)) (hx:x.2.length≤9223372036854775807):FnP Tryz.prog 4 [.agg (Go.Proofs.YtelibaobkcokdaaGreat.aPr x.1 x.2),aInts inp,.agg (aPr y),aPxs sc] fun a=>a=aBool true:=by
 obtain ⟨m0,fs⟩:=x;simp only at hx ⊢;obtain ⟨q,hqf,hqy⟩:∃q:Pm,q.fs=fs∧aPr y=aPr q:=⟨{ y with fs:=fs },rfl,rfl⟩;subst hqf;rw[hqy];refine ⟨by simp[AV.pureL,AV.pure,Go.Proofs.YtelibaobkcokdaaGreat.Zv,YY,Z49,aPxs_pure],FnG.fz ?_⟩;refine Y71 Q06.2 mixed rfl ?_;simp only[Q06,qG];have hac:(AV.agg (Go.Proofs.YtelibaobkcokdaaGreat.aPr m0 q.fs)).cells=Go.Proofs.YtelibaobkcokdaaGreat.aPr m0 q.fs:=rfl;have haq:(AV.agg (aPr q)).cells=aPr q:=rfl;have c2:cellsA (some 2) (Go.Proofs.YtelibaobkcokdaaGreat.aPr m0 q.fs)=some (.agg (Go.Proofs.YtelibaobkcokdaaGreat.aPr m0 q.fs)):=rfl;have c7:cellsA (some 7) (aPr q)=some (.agg (aPr q)):=rfl;have x7:(AV.agg (aPr q)).exact=true:=rfl;have hII:aInts inp=.sl inp.length (inp.map aInt) .none:=rfl;refine Qc (fun ε σ=>(ε 1=aInts inp∧ε 3=aPxs sc∧ε 4=.ep (Go.Proofs.YtelibaobkcokdaaGreat.aPr m0 q.fs)∧ε 6=.ep (aPr q))∧σ=[]) ?_ ?_
 ·intro N X R hN;simp (maxSteps:=999999) -implicitDefEqProofs (disch:=omega) only[push_cast,↓reduceIte,Nat.reduceEqDiff,reduceCtorEq,wz];refine Q6 ?_;simp (maxSteps:=999999) -implicitDefEqProofs (disch:=omega) only[push_cast,↓reduceIte,Nat.reduceEqDiff,reduceCtorEq,wz,hac];refine Q6 ?_;simp (maxSteps:=999999) -implicitDefEqProofs (disch:=omega) only[push_cast,↓reduceIte,Nat.reduceEqDiff,reduceCtorEq,wz,haq];exact hN _ _ ⟨by simp (maxSteps:=999999) -implicitDefEqProofs (disch:=omega) only[push_cast,↓reduceIte,Nat.reduceEqDiff,reduceCtorEq,wz],rfl⟩
 rintro ε σ ⟨hρ,rfl⟩;refine Qt (fun ε σ=>(ε 1=aInts inp∧ε 3=aPxs sc∧ε 4=.ep (Go.Proofs.YtelibaobkcokdaaGreat.aPr m0 q.fs)∧ε 6=.ep (aPr q))∧σ=[]) ?_ ?_
 ·intro N hN;simp (maxSteps:=999999) -implicitDefEqProofs (disch:=omega) only[push_cast,↓reduceIte,Nat.reduceEqDiff,reduceCtorEq,wz,hρ];refine Q5 J6 ?_;simp (maxSteps:=999999) -implicitDefEqProofs (disch:=omega) only[push_cast,↓reduceIte,Nat.reduceEqDiff,reduceCtorEq,wz,aBool];exact hN _ _ ⟨by simp (maxSteps:=999999) -implicitDefEqProofs (disch:=omega) only[push_cast,↓reduceIte,Nat.reduceEqDiff,reduceCtorEq,wz,hρ],rfl⟩
 clear hρ ε;rintro ε σ ⟨hρ,rfl⟩;refine Qt (fun ε σ=>(ε 1=aInts inp∧ε 3=aPxs sc∧ε 4=.ep (Go.Proofs.YtelibaobkcokdaaGreat.aPr m0 q.fs)∧ε 6=.ep (aPr q))∧σ=[]∧okF q.fs∧inp.length≤1000∧sc.length≤20000∧sc.length≤3000) ?_ ?_
 ·intro N hN;simp (maxSteps:=999999) -implicitDefEqProofs (disch:=omega) only[push_cast,↓reduceIte,Nat.reduceEqDiff,reduceCtorEq,wz,hρ,c2,c7];refine Qv (Jd m0 q.fs hx inp q sc) ?_;rintro a ⟨b,rfl,hb⟩
  cases b with
  | true=>simp (maxSteps:=999999) -implicitDefEqProofs (disch:=omega) only[push_cast,↓reduceIte,Nat.reduceEqDiff,reduceCtorEq,wz,aBool];exact oo
  | false=>
   obtain ⟨hf,h1,h2⟩:=hb rfl;by_cases cl:3000 < sc.length
   ·simp (maxSteps:=999999) -implicitDefEqProofs (disch:=omega) only[push_cast,↓reduceIte,Nat.reduceEqDiff,reduceCtorEq,wz,aBool,hρ,show aPxs sc=.sl sc.length (sc.flatMap aPx) .none from rfl,cl];exact oo
   ·simp (maxSteps:=999999) -implicitDefEqProofs (disch:=omega) only[push_cast,↓reduceIte,Nat.reduceEqDiff,reduceCtorEq,wz,aBool,hρ,show aPxs sc=.sl sc.length (sc.flatMap aPx) .none from rfl,cl];exact hN _ _ ⟨by simp (maxSteps:=999999) -implicitDefEqProofs (disch:=omega) only[push_cast,↓reduceIte,Nat.reduceEqDiff,reduceCtorEq,wz,hρ],rfl,hf,h1,h2,by omega⟩
 clear hρ ε hx;rintro ε σ ⟨hρ,rfl,hf,hi,hsc,hal⟩;have hsrc:∀σ:Kx.St,srcA σ 1 (aInts inp)=some (inp.length,inp.map aInt):=fun _=>rfl;have h1:(inp.map aInt).all AV.one=true:=by rw[List.all_map];exact List.all_eq_true.2 fun x _=>rfl
 have hOwn:=Y14 m0 q.fs hf;by_cases he:coreE m0 q.fs inp q=0
 rotate_left
 ·simp (maxSteps:=999999) -implicitDefEqProofs (disch:=omega) only[push_cast,↓reduceIte,Nat.reduceEqDiff,reduceCtorEq,wz,hρ,c2,c7,x7];refine both2 ?_ ?_
  ·refine Q5 hOwn ?_;simp (maxSteps:=999999) -implicitDefEqProofs (disch:=omega) only[push_cast,↓reduceIte,Nat.reduceEqDiff,reduceCtorEq,wz,hρ,c2,c7,x7];refine QA (sz:=1) ke ke ?_;simp (maxSteps:=999999) -implicitDefEqProofs (disch:=omega) only[push_cast,↓reduceIte,Nat.reduceEqDiff,reduceCtorEq,wz,hρ,c2,c7,x7];refine QP (n:=0) (cs:=[]) (m:=inp.length) rfl (hsrc _) ke h1 rfl ka ka ?_;simp (maxSteps:=999999) -implicitDefEqProofs (disch:=omega) only[push_cast,↓reduceIte,Nat.reduceEqDiff,reduceCtorEq,wz,hρ,c2,c7,x7];refine Q0 (X34 m0 q hf inp he _) ?_;rintro a σ' ⟨rfl,hs⟩;rw[hs];clear hs σ';simp (maxSteps:=999999) -implicitDefEqProofs (disch:=omega) only[push_cast,↓reduceIte,Nat.reduceEqDiff,reduceCtorEq,wz,hρ,aInt,he];exact oo
  ·refine QA (sz:=1) ke ke ?_;simp (maxSteps:=999999) -implicitDefEqProofs (disch:=omega) only[push_cast,↓reduceIte,Nat.reduceEqDiff,reduceCtorEq,wz,hρ,c2,c7,x7];refine Q5 hOwn ?_;simp (maxSteps:=999999) -implicitDefEqProofs (disch:=omega) only[push_cast,↓reduceIte,Nat.reduceEqDiff,reduceCtorEq,wz,hρ,c2,c7,x7];refine QP (n:=0) (cs:=[]) (m:=inp.length) rfl (hsrc _) ke h1 rfl ka ka ?_;simp (maxSteps:=999999) -implicitDefEqProofs (disch:=omega) only[push_cast,↓reduceIte,Nat.reduceEqDiff,reduceCtorEq,wz,hρ,c2,c7,x7];refine Q0 (X34 m0 q hf inp he _) ?_;rintro a σ' ⟨rfl,hs⟩;rw[hs];clear hs σ';simp (maxSteps:=999999) -implicitDefEqProofs (disch:=omega) only[push_cast,↓reduceIte,Nat.reduceEqDiff,reduceCtorEq,wz,hρ,aInt,he];exact oo
 obtain ⟨M,rfl⟩:∃M:Nat,m0=M:=⟨m0.toNat,by have:=coreE_m he;omega⟩;refine Qc (fun ε σ'=>∃jm,(ε 9=.ref jm 0 0∧ε 10=.v (.int .i64 0)∧ε 3=aPxs sc∧ε 6=.ep (aPr q))∧∃pl,MaR [] jm q pl σ' (mkM q M inp) 0) ?_ ?_
 ·intro N X R hN;simp (maxSteps:=999999) -implicitDefEqProofs (disch:=omega) only[push_cast,↓reduceIte,Nat.reduceEqDiff,reduceCtorEq,wz,hρ,c2,c7,x7];refine both2 ?_ ?_
  ·refine Q5 hOwn ?_;simp (maxSteps:=999999) -implicitDefEqProofs (disch:=omega) only[push_cast,↓reduceIte,Nat.reduceEqDiff,reduceCtorEq,wz,hρ,c2,c7,x7];refine QA (sz:=1) ke ke ?_;simp (maxSteps:=999999) -implicitDefEqProofs (disch:=omega) only[push_cast,↓reduceIte,Nat.reduceEqDiff,reduceCtorEq,wz,hρ,c2,c7,x7];refine QP (n:=0) (cs:=[]) (m:=inp.length) rfl (hsrc _) ke h1 rfl ka ka ?_;simp (maxSteps:=999999) -implicitDefEqProofs (disch:=omega) only[push_cast,↓reduceIte,Nat.reduceEqDiff,reduceCtorEq,wz,hρ,c2,c7,x7];refine Q0 (Z88 M q hf inp he []) ?_;rintro a σ' ⟨jm,rfl,pl,h⟩;simp (maxSteps:=999999) -implicitDefEqProofs (disch:=omega) only[push_cast,↓reduceIte,Nat.reduceEqDiff,reduceCtorEq,wz,hρ,aInt];exact hN _ _ ⟨jm,by simp (maxSteps:=999999) -implicitDefEqProofs (disch:=omega) only[push_cast,↓reduceIte,Nat.reduceEqDiff,reduceCtorEq,wz,hρ],pl,h⟩
  ·refine QA (sz:=1) ke ke ?_;simp (maxSteps:=999999) -implicitDefEqProofs (disch:=omega) only[push_cast,↓reduceIte,Nat.reduceEqDiff,reduceCtorEq,wz,hρ,c2,c7,x7];refine Q5 hOwn ?_;simp (maxSteps:=999999) -implicitDefEqProofs (disch:=omega) only[push_cast,↓reduceIte,Nat.reduceEqDiff,reduceCtorEq,wz,hρ,c2,c7,x7];refine QP (n:=0) (cs:=[]) (m:=inp.length) rfl (hsrc _) ke h1 rfl ka ka ?_;simp (maxSteps:=999999) -implicitDefEqProofs (disch:=omega) only[push_cast,↓reduceIte,Nat.reduceEqDiff,reduceCtorEq,wz,hρ,c2,c7,x7];refine Q0 (Z88 M q hf inp he []) ?_;rintro a σ' ⟨jm,rfl,pl,h⟩;simp (maxSteps:=999999) -implicitDefEqProofs (disch:=omega) only[push_cast,↓reduceIte,Nat.reduceEqDiff,reduceCtorEq,wz,hρ,aInt];exact hN _ _ ⟨jm,by simp (maxSteps:=999999) -implicitDefEqProofs (disch:=omega) only[push_cast,↓reduceIte,Nat.reduceEqDiff,reduceCtorEq,wz,hρ],pl,h⟩
 clear hρ ε;rintro ε σ ⟨jm,hρ,pl,h⟩;have hok:=h.ma.mm.sd.ok;refine Qt (fun ε σ'=>(ε 9=.ref jm 0 0∧ε 3=aPxs sc∧ε 6=.ep (aPr q))∧σ'=σ) ?_ ?_
 ·intro N hN;simp (maxSteps:=999999) -implicitDefEqProofs (disch:=omega) only[push_cast,↓reduceIte,Nat.reduceEqDiff,reduceCtorEq,wz,hρ];exact hN _ _ ⟨by simp (maxSteps:=999999) -implicitDefEqProofs (disch:=omega) only[push_cast,↓reduceIte,Nat.reduceEqDiff,reduceCtorEq,wz,hρ],rfl⟩
 clear hρ ε;rintro ε σ' ⟨hρ,e⟩;rw[e];clear e σ';have hPP:aPxs sc=.sl sc.length (sc.flatMap aPx) .none:=rfl;have f1:(aPr q)[1]?=some (.v (.int .i64 q.T)):=rfl;have f2:(aPr q)[2]?=some (.v (.int .i64 q.F)):=rfl;refine Qc (fun ε σ=>∃pl m,∃n:Nat,(ε 9=.ref jm 0 0∧ε 6=.ep (aPr q))∧n≤3000∧MaR [] jm q pl σ m sc.length∧Cnt q m n∧In.IT q m n) ?_ ?_
 ·intro N X R hN;simp (maxSteps:=999999) -implicitDefEqProofs (disch:=omega) only[push_cast,↓reduceIte,Nat.reduceEqDiff,reduceCtorEq,wz,hρ]
  refine wpa_blx (α:=Nat) (I:=fun k ε σ=>∃pl m,∃n:Nat,(ε 9=.ref jm 0 0∧ε 3=aPxs sc∧ε 6=.ep (aPr q)∧ε 11=.v (.int .i64 k))∧(k≤sc.length∧n≤k)∧MaR [] jm q pl σ m k∧Cnt q m n∧In.IT q m n)
   (μ:=fun k=>sc.length - k) (Q:=fun ε σ=>∃pl m,∃n:Nat,(ε 9=.ref jm 0 0∧ε 6=.ep (aPr q))∧n≤3000∧MaR [] jm q pl σ m sc.length∧Cnt q m n∧In.IT q m n) (x:=0) ?_ ?_ hN
  ·exact ⟨pl,mkM q M inp,0,by simp (maxSteps:=999999) -implicitDefEqProofs (disch:=omega) only[push_cast,↓reduceIte,Nat.reduceEqDiff,reduceCtorEq,wz,hρ],by omega,h,mkM_cnt hok M inp,In.mkM_IT hok M inp⟩
  ·clear hN N X R hρ ε h pl σ;rintro k ε σ N E X R ⟨pl,m,n,hρ,hk,h,hC,hI⟩ hN hE;by_cases hlt:k < sc.length
   ·obtain ⟨o,ho⟩:=Q23 hlt;have hd:=QQ aPx_len ho;have hnn:=hC.nn
    have key:∃n':Nat,n'≤k+1∧Cnt q (m.step q o.1 o.2) n'∧In.IT q (m.step q o.1 o.2) n':=by
     cases c:m.ended with
     | true=>rw[step_end c];exact ⟨n,by omega,hC,hI⟩
     | false=>exact ⟨n+1,by omega,hC.step (by have:=hok.1;omega) c o.1 o.2,hI.step hC h.ok c ka o.1 o.2⟩
    obtain ⟨n',hn',hC',hI'⟩:=key;simp (maxSteps:=999999) -implicitDefEqProofs (disch:=omega) only[push_cast,↓reduceIte,Nat.reduceEqDiff,reduceCtorEq,wz,hρ,hPP,hd,c2k];refine Q0 (X03 h ka o.1 o.2) ?_;rintro a σ' ⟨rfl,pl',h'⟩;simp (maxSteps:=999999) -implicitDefEqProofs (disch:=omega) only[push_cast,↓reduceIte,Nat.reduceEqDiff,reduceCtorEq,wz,hρ];refine Q0 (Xg h'.ma) ?_;rintro a σ' ⟨rfl,hs⟩;rw[hs];clear hs σ';have hu:=hC'.ar;have hu2:=usedle _ hu.h0;have hu3:=hu.hl;have hu4:=hu.f;have hu5:¬q.F < (usedN (m.step q o.1 o.2).c.held:Int):=by omega
    simp (maxSteps:=999999) -implicitDefEqProofs (disch:=omega) only[push_cast,↓reduceIte,Nat.reduceEqDiff,reduceCtorEq,wz,hρ,aInt,f2,hu5];exact hN (k+1) _ _ ⟨pl',_,n',by simp (maxSteps:=999999) -implicitDefEqProofs (disch:=omega) only[push_cast,↓reduceIte,Nat.reduceEqDiff,reduceCtorEq,wz,hρ,hPP],by omega,h',hC',hI'⟩ ka
   ·obtain rfl:k=sc.length:=by omega
    simp (maxSteps:=999999) -implicitDefEqProofs (disch:=omega) only[push_cast,↓reduceIte,Nat.reduceEqDiff,reduceCtorEq,wz,hρ,hPP];exact hE _ _ ⟨pl,m,n,by simp (maxSteps:=999999) -implicitDefEqProofs (disch:=omega) only[push_cast,↓reduceIte,Nat.reduceEqDiff,reduceCtorEq,wz,hρ],by omega,h,hC,hI⟩
 clear hρ ε h pl σ;rintro ε σ ⟨pl,m,n,hρ,hn,h,hC,hI⟩;have hlg:=h.ok.lg;have hok':In.okG q.T [] m.c.log=true:=by obtain ⟨⟨P,H,T,cl,cn,rg,pc,g,_⟩,_⟩:=hI;exact g.hv.vk
 have hT:=hok.2.1
 obtain ⟨t,ht,hev⟩:∃t:Tok,(t=.nil∨t=.none)∧aVtsN m.c.log=.sl m.c.log.length (m.c.log.flatMap aVt) t:=by
  unfold aVtsN;split
  ·rename_i e;rw[e];exact ⟨_,.inl rfl,rfl⟩
  ·exact ⟨_,.inr rfl,rfl⟩
 have hm1:¬q.T < mostF m.c.log:=by have:=In.most_le (T:=q.T) ka hok';omega
 have hm2:¬q.F < m.c.peak:=by have:=hC.ar.pk;omega
 have f4:PF.av (.fld 4 (some 7)) [.agg (aRs m.state m.c m.c.peak)]=some (.agg [.v (.int .i64 m.c.steps),.v (.int .i64 m.c.probes),.v (.int .i64 m.c.steals),.v (.int .i64 m.c.parks),.v (.int .i64 m.c.naps),.v (.int .i64 m.c.folds),.v (.int .i64 m.c.peak)]):=rfl;have g6:PF.av (.fld 6 none) [.agg [.v (.int .i64 m.c.steps),.v (.int .i64 m.c.probes),.v (.int .i64 m.c.steals),.v (.int .i64 m.c.parks),.v (.int .i64 m.c.naps),.v (.int .i64 m.c.folds),.v (.int .i64 m.c.peak)]]=some (.v (.int .i64 m.c.peak)):=rfl;simp (maxSteps:=999999) -implicitDefEqProofs (disch:=omega) only[push_cast,↓reduceIte,Nat.reduceEqDiff,reduceCtorEq,wz,hρ];refine Q0 (Xh h.ma ka) ?_;rintro a σ' ⟨rfl,hs⟩;rw[hs,hev];clear hs σ';simp (maxSteps:=999999) -implicitDefEqProofs (disch:=omega) only[push_cast,↓reduceIte,Nat.reduceEqDiff,reduceCtorEq,wz,hρ,f1];refine Q5 (Y29 m.c.log ka t ht) ?_;simp (maxSteps:=999999) -implicitDefEqProofs (disch:=omega) only[push_cast,↓reduceIte,Nat.reduceEqDiff,reduceCtorEq,wz,hρ,aInt,hm1,f2];refine Q0 (Xi h.ma) ?_;rintro a σ' ⟨rfl,hs⟩;rw[hs];clear hs σ';simp (maxSteps:=999999) -implicitDefEqProofs (disch:=omega) only[push_cast,↓reduceIte,Nat.reduceEqDiff,reduceCtorEq,wz,hρ,f4,g6,hm2,f1,f2];refine ⟨aholds_ldg (w:=false) (a:=.v (.int .i64 q.F)) rfl rfl rfl rfl,?_⟩;refine Q5 (Y13 m.c.log ka hT hok' t ht) ?_;simp (maxSteps:=999999) -implicitDefEqProofs (disch:=omega) only[push_cast,↓reduceIte,Nat.reduceEqDiff,reduceCtorEq,wz,aBool];exact oo
end Go.Proofs.YtelibaobkcokdaaGreat.Mx
namespace Go.Proofs.YtelibaobkcokdaaGreat
set_option linter.unusedVariables false
set_option linter.unusedSimpArgs false
open Go Go.Kx Go.Proofs
def shIx:Sh:=.st (.fcons 1 shN (.fcons 1 shN (.fcons 1 shN (.fcons 1 shN .fnil))))
theorem shIx_read {c:List AV} (h:Enc shIx c):∃x:Ix,c=aIx x:=by simp only[shIx,Enc] at h;obtain ⟨x,y,rfl,_,hx,x2,y2,rfl,_,hy,x3,y3,rfl,_,hz,x4,y4,rfl,_,hw,rfl⟩:=h;obtain ⟨n,rfl,_⟩:=Q27 hx;obtain ⟨m,rfl,_⟩:=Q27 hy;obtain ⟨k,rfl,_⟩:=Q27 hz;obtain ⟨j,rfl,_⟩:=Q27 hw;exact ⟨⟨n,m,k,j⟩,rfl⟩
def shIxs:Sh:=.sl 4 shIx
theorem shIxs_read {cs:List AV} (h:Enc shIxs cs):∃l:List Ix,cs=[aIxs l]:=by obtain ⟨l,h,_⟩:=enc_sl (f:=aIx) (fun _ hc=>shIx_read hc) h;exact ⟨l,h⟩
def shPr:Sh:=.st (.fcons 1 shN (.fcons 1 (.sl 1 shIxs) .fnil))
theorem shPr_read {cs:List AV} (h:Enc shPr cs):∃x:Int×List (List Ix),cs=aPr x.1 x.2∧x.2.length≤9223372036854775807:=by simp only[shPr,Enc] at h;obtain ⟨x,y,rfl,_,hx,x2,y2,rfl,_,hy,rfl⟩:=h;obtain ⟨n,rfl,_⟩:=Q27 hx;obtain ⟨l,rfl,hl⟩:=enc_sl1 (f:=aIxs) (fun _ hc=>shIxs_read hc) (show Enc (.sl 1 shIxs) x2 from hy);exact ⟨(n,l),rfl,hl⟩
theorem shIx_ok:ShOk Tryz.prog shIx 126:=⟨_,Tryz.underlying126,rfl,by kernel_rfl,Tryz.underlying3,rfl,by kernel_rfl,Tryz.underlying3,rfl,by kernel_rfl,Tryz.underlying3,rfl,by kernel_rfl,Tryz.underlying3,(by show 0+1+1+1+1=Tryz.prog.cellsOf 126;kernel_rfl)⟩
theorem shIxs_ok:ShOk Tryz.prog shIxs 106:=⟨126,Tryz.underlying106,by kernel_rfl,by omega,shIx_ok⟩
theorem shPr_ok:ShOk Tryz.prog shPr 33:=⟨_,Tryz.underlying33,rfl,by kernel_rfl,Tryz.underlying3,rfl,by kernel_rfl,⟨106,Tryz.underlying31,by kernel_rfl,by omega,shIxs_ok⟩,(by show 0+1+1=Tryz.prog.cellsOf 33;kernel_rfl)⟩
theorem rel_agg {G:Gh} {cs:List AV} {xs:Array Value} (h:RelL G cs xs.toList):RelV G (.agg cs) (.agg xs):=RelV.agg cs xs.toList h.1 h.2
end Go.Proofs.YtelibaobkcokdaaGreat
namespace Go.Proofs.YtelibaobkcokdaaGreat.Mx
set_option linter.unusedVariables false
set_option linter.unusedSimpArgs false
open Go Go.Kx Go.Proofs Go.Proofs.YtelibaobkcokdaaGreat
set_option maxRecDepth 8000
def shB:Sh:=.bool
theorem shB_read {c:List AV} (h:Enc shB c):∃b:Bool,c=[.v (.bool b)]:=h
def shPa:Sh:=.st (.fcons 1 shN (.fcons 1 shN (.fcons 1 shN (.fcons 1 shN (.fcons 1 shN (.fcons 1 shB (.fcons 1 shB .fnil)))))))
theorem shPa_read {c:List AV} (h:Enc shPa c):∃x:Pm,c=aPr x∧True:=by simp only[shPa,Enc] at h;obtain ⟨x,y,rfl,_,hx,x2,y2,rfl,_,hx2,x3,y3,rfl,_,hx3,x4,y4,rfl,_,hx4,x5,y5,rfl,_,hx5,x6,y6,rfl,_,hx6,x7,y7,rfl,_,hx7,rfl⟩:=h;obtain ⟨a,rfl,_⟩:=Q27 hx;obtain ⟨b,rfl,_⟩:=Q27 hx2;obtain ⟨c,rfl,_⟩:=Q27 hx3;obtain ⟨d,rfl,_⟩:=Q27 hx4;obtain ⟨e,rfl,_⟩:=Q27 hx5;obtain ⟨f,rfl⟩:=shB_read hx6;obtain ⟨g,rfl⟩:=shB_read hx7;exact ⟨⟨a,b,c,d,e,f,g,[]⟩,rfl,trivial⟩
theorem shPa_ok:ShOk Tryz.prog shPa 36:=⟨_,Tryz.underlying36,rfl,by kernel_rfl,Tryz.underlying3,rfl,by kernel_rfl,Tryz.underlying3,rfl,by kernel_rfl,Tryz.underlying3,rfl,by kernel_rfl,Tryz.underlying3,rfl,by kernel_rfl,Tryz.underlying3,rfl,by kernel_rfl,Tryz.underlying4,rfl,by kernel_rfl,Tryz.underlying4,(by show 0+1+1+1+1+1+1+1=Tryz.prog.cellsOf 36;kernel_rfl)⟩
def shPx:Sh:=.st (.fcons 1 shN (.fcons 1 shN .fnil))
theorem shPx_read {c:List AV} (h:Enc shPx c):∃x:Int×Int,c=aPx x:=by simp only[shPx,Enc] at h;obtain ⟨x,y,rfl,_,hx,x2,y2,rfl,_,hx2,rfl⟩:=h;obtain ⟨a,rfl,_⟩:=Q27 hx;obtain ⟨b,rfl,_⟩:=Q27 hx2;exact ⟨(a,b),rfl⟩
def shPxs:Sh:=.sl 2 shPx
theorem shPxs_read {cs:List AV} (h:Enc shPxs cs):∃l:List (Int×Int),cs=[aPxs l]∧l.length≤9223372036854775807:=enc_sl (f:=aPx) (fun _ hc=>shPx_read hc) h
theorem shPxs_ok:ShOk Tryz.prog shPxs 37:=⟨46,Tryz.underlying37,by kernel_rfl,by omega,_,Tryz.underlying46,rfl,by kernel_rfl,Tryz.underlying3,rfl,by kernel_rfl,Tryz.underlying3,(by show 0+1+1=Tryz.prog.cellsOf 46;kernel_rfl)⟩
end Go.Proofs.YtelibaobkcokdaaGreat.Mx
namespace Go.Proofs.YtelibaobkcokdaaGreat.Mx
set_option linter.unusedVariables false
set_option linter.unusedSimpArgs false
open Go Go.Kx Go.Proofs Go.Proofs.YtelibaobkcokdaaGreat
theorem X64 (x:Int×List (List Ix)) (inp:List Int) (y:Pm) (sc:List (Int×Int)) (h0:x.2.length≤9223372036854775807) (_:inp.length≤9223372036854775807) (_:True) (_:sc.length≤9223372036854775807):FnP Tryz.prog 4 [.agg (Go.Proofs.YtelibaobkcokdaaGreat.aPr x.1 x.2),aInts inp,.agg (aPr y),aPxs sc] fun a=>a=aBool true:=X63 x inp y sc h0
end Go.Proofs.YtelibaobkcokdaaGreat.Mx
