/- The machine: runs of one worker; works. -/
import Derived.Test.YtelibaobkcokdaaGreatTH2G26
import Derived.Test.YtelibaobkcokdaaGreatProg
import Derived.KernelRfl
namespace Go.Proofs.YtelibaobkcokdaaGreat.Mx
set_option linter.unusedVariables false
set_option linter.unusedSimpArgs false
open Go Go.Kx Go.Proofs Go.Proofs.YtelibaobkcokdaaGreat
set_option maxRecDepth 8000
theorem law05_Ints_a (l k:List Int) (hl:l.length≤1000000) (hk:k.length≤1000000):FnP Tryz.prog 41 [aInts l,aInts k] fun a=>a=aBool (l==k):=by
 refine Qj ZW.2 mixed rfl (by simp[AV.pureL,Z49]) ?_;simp only[ZW,aInts,aSl,qH];by_cases hle:l.length=k.length
 ·push_cast -implicitDefEqProofs (disch:=omega)[hle]
  refine ZE (α:=Nat) (I:=fun t ε σ=>(ε 0=.sl l.length (l.map aInt) .none∧ε 1=.sl k.length (k.map aInt) .none∧ε 5=.v (.int .i64 t))∧t≤l.length∧l.take t=k.take t)
   (μ:=fun t=>l.length - t) (Q:=fun _ _=>l=k) (x:=0) ?_ ?_ ?_
  ·push_cast -implicitDefEqProofs (disch:=omega)[hle];omega
  ·rintro t ε σ N E ⟨hρ,ht,heq⟩ hN hE;by_cases hlt:t < l.length
   ·obtain ⟨x,hx⟩:=Q23 hlt;obtain ⟨y,hy⟩:=Q23 (l:=k) (k:=t) ka;by_cases he:x=y
    ·subst he;push_cast -implicitDefEqProofs (disch:=omega)[hρ,hx,hy,aInt];refine hN (t+1) _ _ ?_ ka;push_cast -implicitDefEqProofs (disch:=omega)[hρ];exact ⟨by omega,by rw[Qp hx,Qp hy,heq]⟩
    ·push_cast -implicitDefEqProofs (disch:=omega)[hρ,hx,hy,aInt,he];refine fin_v ?_;have:l≠k:=by intro e;subst e;rw[hx] at hy;cases hy;exact he rfl
     simp[aBool,this]
   ·push_cast -implicitDefEqProofs (disch:=omega)[hρ];refine hE _ _ ?_
    rwa [List.take_of_length_le ka,List.take_of_length_le ka] at heq
  ·intro ε σ h;push_cast -implicitDefEqProofs (disch:=omega);exact fin_v (by simp[aBool,h])
 ·push_cast -implicitDefEqProofs (disch:=omega)[hle];refine fin_v ?_;have:l≠k:=by intro e;subst e;exact hle rfl
  simp[aBool,this]
structure MaR (σ0:Kx.St) (jm:Nat) (q:Pm) (pl:Pl) (σ:Kx.St) (m:Mc) (n:Nat):Prop where
 ma:MaM jm q pl σ m
 ok:McOk m n
 keep:∀j,j < σ0.length→σ[j]?=σ0[j]?
 new:∀ro,σ0.length≤pl.p ro
 jn:σ0.length≤jm
 ln:σ0.length≤σ.length
theorem MaR.next {σ0:Kx.St} {jm:Nat} {q:Pm} {pl pl':Pl} {σ σ':Kx.St} {m:Mc} {n:Nat} (h:MaR σ0 jm q pl σ m n) {a b:Int} (h':MaM jm q pl' σ' (m.step q a b)) (X:Ext pl pl' σ σ'):MaR σ0 jm q pl' σ' (m.step q a b) (n+1):=by
 refine ⟨h',h.ok.step q a b,fun j hj=>?_,fun ro=>?_,h.jn,by have:=X.len;have:=h.ln;omega⟩
 ·rw[X.keep j (by have:=h.ln;omega) fun ro=>by have:=h.new ro;omega];exact h.keep j hj
 ·rcases X.new ro with e|e
  ·rw[e];exact h.new ro
  ·have:=h.ln;omega
theorem X03 {σ0:Kx.St} {jm:Nat} {q:Pm} {pl:Pl} {σ:Kx.St} {m:Mc} {n:Nat} (h:MaR σ0 jm q pl σ m n) (hn:n≤400000000) (worker victim:Int):
  FnG Tryz.prog 21 [.ref jm 0 0,.agg [.v (.int .i64 worker),.v (.int .i64 victim)]] σ fun a σ'=>a=aBool (m.step q worker victim).ended∧∃pl',MaR σ0 jm q pl' σ' (m.step q worker victim) (n+1):=
 (Y27 h.ma h.ok hn worker victim).mono fun a σ' ⟨pl',h1,h2,h3⟩=>⟨h1,pl',h.next h2 h3⟩
theorem Z88 (M:Nat) (q:Pm) (hf:okF q.fs) (inp:List Int) (he:coreE M q.fs inp q=0) (σ:Kx.St):FnG Tryz.prog 19 [.agg (Go.Proofs.YtelibaobkcokdaaGreat.aPr M q.fs),aInts inp,.agg (aPr q)] σ fun a σ'=>∃jm,a=.tup [.ref jm 0 0,aInt 0]∧∃pl,MaR σ jm q pl σ' (mkM q M inp) 0:=
 (Y94 M q hf inp he σ).mono fun a σ' ⟨jm,pl,h1,h2,h3,h4,h5⟩=>⟨jm,h1,pl,h2,mkM_ok h2.mm.sd.ok M inp,h3,h4,h5,by have:=h2.mm.lt .c;have:=h4 .c;omega⟩
theorem coreE_m {m:Int} {fs:List (List Ix)} {inp:List Int} {q:Pm} (h:coreE m fs inp q=0):0≤m:=by
 unfold coreE at h;split at h
 ·exact absurd h ‹_›
 ·split at h
  ·cases h
  ·split at h
   ·cases h
   ·omega
theorem step_end {m:Mc} {q:Pm} (h:m.ended=true) (a b:Int):m.step q a b=m:=by unfold Mc.step;rw[if_pos h]
def Mc.go (q:Pm) (m:Mc) (n:Nat):Mc:=m.run q (List.replicate n (0,0))
theorem go_succ (q:Pm) (m:Mc) (n:Nat):m.go q (n+1)=(m.go q n).step q 0 0:=by unfold Mc.go Mc.run;rw[List.replicate_succ',List.foldl_append];rfl
theorem go_end {q:Pm} {m:Mc} {n:Nat} (h:(m.go q n).ended=true) (k:Nat):m.go q (n+k)=m.go q n:=by
 induction k with
 | zero=>rfl
 | succ k ih=>rw[show n+(k+1)=(n+k)+1 from rfl,go_succ,ih,step_end h]
theorem three_ok:okF three:=⟨by decide,by decide⟩
theorem J4:FnP Tryz.prog 53 [] fun a=>a=.agg (Go.Proofs.YtelibaobkcokdaaGreat.aPr 0 three):=by refine Qj Zq.2 mixed rfl rfl ?_;simp only[Zq,qH];have b4:∀a b c d:Int,fillA [AV.v (.int .i64 0),AV.v (.int .i64 0),AV.v (.int .i64 0),AV.v (.int .i64 0)] [(0,1),(1,1),(2,1),(3,1)] [.v (.int .i64 a),.v (.int .i64 b),.v (.int .i64 c),.v (.int .i64 d)]=some (aIx ⟨a,b,c,d⟩):=fun _ _ _ _=>rfl;have b3:∀a b c:Int,fillA [AV.v (.int .i64 0),AV.v (.int .i64 0),AV.v (.int .i64 0),AV.v (.int .i64 0)] [(0,1),(1,1),(2,1)] [.v (.int .i64 a),.v (.int .i64 b),.v (.int .i64 c)]=some (aIx ⟨a,b,c,0⟩):=fun _ _ _=>rfl;have b2:∀a b:Int,fillA [AV.v (.int .i64 0),AV.v (.int .i64 0),AV.v (.int .i64 0),AV.v (.int .i64 0)] [(0,1),(1,1)] [.v (.int .i64 a),.v (.int .i64 b)]=some (aIx ⟨a,b,0,0⟩):=fun _ _=>rfl;have b1:∀a:Int,fillA [AV.v (.int .i64 0),AV.v (.int .i64 0),AV.v (.int .i64 0),AV.v (.int .i64 0)] [(0,1)] [.v (.int .i64 a)]=some (aIx ⟨a,0,0,0⟩):=fun _=>rfl;have hx:∀x:Ix,(AV.agg (aIx x)).cells=aIx x:=fun _=>rfl;push_cast -implicitDefEqProofs;refine Qm ?_;push_cast -implicitDefEqProofs[b4,b3,b2,b1];refine QA (sz:=4) (by intro a ha;simp at ha;rcases ha with rfl|rfl|rfl|rfl<;>rfl) ke ?_;push_cast -implicitDefEqProofs[b4,b3,b2,b1,hx];refine QA (sz:=4) (by intro a ha;simp at ha;rcases ha with rfl|rfl|rfl|rfl|rfl|rfl|rfl<;>rfl) ke ?_;push_cast -implicitDefEqProofs[b4,b3,b2,b1,hx];refine QA (sz:=1) (by intro a ha;simp at ha;rcases ha with rfl|rfl<;>rfl) ke ?_;have hb:∀a b:AV,fillA [AV.v (.int .i64 0),.sl 0 [] .nil] [(1,1)] [.sl 2 [a,b] .full]=some [.v (.int .i64 0),.sl 2 [a,b] .full]:=fun _ _=>rfl;push_cast -implicitDefEqProofs[AV.cells,hb];refine Qd (cs:=[AV.v (.int .i64 0),.sl 0 [] .nil]) rfl rfl rfl ko ?_;have c2:∀a b:AV,cellsA (some 2) [AV.v (.int .i64 0),.sl 2 [a,b] .full]=some (.agg [AV.v (.int .i64 0),.sl 2 [a,b] .full]):=fun _ _=>rfl;push_cast -implicitDefEqProofs[c2];exact ⟨[],rfl,rfl⟩
def aVws (L:List Wk):AV:=.sl L.length (L.flatMap aVw) .none
theorem aVw_len (w:Wk):(aVw w).length=4:=rfl
theorem aVws_res (σ:Kx.St) (L:List Wk) (t:Tok) (n:Nat):(AV.sl n (L.flatMap aVw) t).res σ=.sl n (L.flatMap aVw) .none:=by
 have:AV.resL σ (L.flatMap aVw)=L.flatMap aVw:=by
  induction L with
  | nil=>rfl
  | cons x l ih=>rw[List.flatMap_cons];simp[aVw,AV.resL,AV.res,ih]
 show AV.sl n (AV.resL σ (L.flatMap aVw)) _=_;rw[this]
theorem aVws_low (n:Nat) (L:List Wk):(aVws L).low n=true:=by
 have:AV.lowL n (L.flatMap aVw)=true:=by
  induction L with
  | nil=>rfl
  | cons x l ih=>rw[List.flatMap_cons];simp[aVw,AV.lowL,AV.low,ih]
 simp[aVws,AV.low,this]
set_option maxHeartbeats 4000000 in
theorem X57 {jm:Nat} {q:Pm} {pl:Pl} {σ:Kx.St} {m:Mc} (h:MaM jm q pl σ m):FnG Tryz.prog 28 [.ref jm 0 0] σ fun a σ'=>a=aVws m.l∧σ'=σ:=by
 refine FnG.drop0 (fun a ha=>by subst ha;exact aVws_low _ _) (FnG.fz ?_);refine Q3 Q25.2 mixed rfl ?_;simp only[Q25,qH];obtain ⟨t,ht⟩:=h.mo;have hln:=h.ln;have hW:=h.mm.sd.ok.1;generalize hRL:(List.range m.l.length).map (fun k=>AV.ref (pl.p (.wk k)) 0 0)=RL at ht;have hRl:∀k,k < m.l.length→RL[k]?=some (.ref (pl.p (.wk k)) 0 0):=fun k hk=>by rw[←hRL,List.getElem?_map,List.getElem?_range hk];rfl
 refine Qc (fun ε σ'=>ε 0=.ref jm 0 0∧σ'=σ) ?_ ?_
 ·intro N X R hN;push_cast -implicitDefEqProofs (disch:=omega);exact hN _ _ ⟨by push_cast -implicitDefEqProofs (disch:=omega),rfl⟩
 rintro ε σ' ⟨hρ,e⟩;rw[e];clear e σ';refine Qt (fun ε σ'=>ε 0=.ref jm 0 0∧σ'=σ) ?_ ?_
 ·intro N hN;push_cast -implicitDefEqProofs (disch:=omega)[hρ];exact hN _ _ ⟨by push_cast -implicitDefEqProofs (disch:=omega)[hρ],rfl⟩
 clear hρ ε;rintro ε σ' ⟨hρ,e⟩;rw[e];clear e σ';refine Qc (fun ε σ'=>(ε 0=.ref jm 0 0∧ε 3=.sl 0 [] .nil)∧σ'=σ) ?_ ?_
 ·intro N X R hN;push_cast -implicitDefEqProofs (disch:=omega)[hρ];exact hN _ _ ⟨by push_cast -implicitDefEqProofs (disch:=omega)[hρ],rfl⟩
 clear hρ ε;rintro ε σ' ⟨hρ,e⟩;rw[e];clear e σ';have hmt:∀τ:Kx.St,(σ++τ)[jm]?=_:=fun τ=>Qn ht;refine Qc (fun ε σ'=>∃w,ε 3=.sl m.l.length (m.l.flatMap aVw) (.id σ.length w 4)∧∃τ,σ'=σ++τ) ?_ ?_
 ·intro N X R hN;push_cast -implicitDefEqProofs (disch:=omega)[hρ,ht]
  refine Y8 (GU.tok 3 4 oz) (α:=Nat) (I:=fun k ε σ'=>(ε 11=.sl m.l.length RL t∧ε 12=.v (.int .i64 m.l.length)∧ε 13=.v (.int .i64 k))∧k≤m.l.length∧∃w,ε 3=.sl k ((m.l.take k).flatMap aVw) (.id σ.length w 4)∧σ'=σ++[.tail w])
   (μ:=fun k=>m.l.length - k) (Q:=fun ε σ'=>∃w,ε 3=.sl m.l.length (m.l.flatMap aVw) (.id σ.length w 4)∧∃τ,σ'=σ++τ) (x:=0) ?_ ?_ hN
  ·push_cast -implicitDefEqProofs (disch:=omega);exact ⟨by omega,0,rfl,rfl⟩
  ·clear hN N X R hρ ε;rintro k ε σ' N E X R ⟨hρ,hk,w,h3,rfl⟩ hN hE;by_cases hlt:k < m.l.length
   ·obtain ⟨v,hv⟩:=Q23 hlt;have hr:=hRl k hlt;have hcl:(AV.agg (aVw v)).cells=aVw v:=rfl;push_cast -implicitDefEqProofs (disch:=omega)[hρ,hr];refine Q0 (J0 (h.mm.app _) hv) ?_;rintro a σ' ⟨rfl,hs⟩;rw[hs];clear hs σ';push_cast -implicitDefEqProofs (disch:=omega);refine QA (sz:=4) oG ke ?_;push_cast -implicitDefEqProofs (disch:=omega)[hcl,h3];refine X44 (m:=1) rfl rfl (by rw[List.append_nil];rfl) rfl (by rw[Q36 aVw_len,List.length_take];omega) ka ka (Qe _ _) ?_;push_cast -implicitDefEqProofs (disch:=omega)[hρ,Qu];refine hN (k+1) _ _ ⟨by push_cast -implicitDefEqProofs (disch:=omega)[hρ],by omega,w+1,?_,rfl⟩ ka;have e:(m.l.take (k+1)).flatMap aVw=(m.l.take k).flatMap aVw++aVw v:=by rw[Qp hv,List.flatMap_append];simp
    rw[e];push_cast -implicitDefEqProofs (disch:=omega)[List.append_nil]
   ·push_cast -implicitDefEqProofs (disch:=omega)[hρ];obtain rfl:k=m.l.length:=by omega
    rw[List.take_length] at h3;exact hE _ _ ⟨w,by push_cast -implicitDefEqProofs (disch:=omega)[h3],_,rfl⟩
 clear hρ ε;rintro ε σ' ⟨w,hρ,τ,rfl⟩;push_cast -implicitDefEqProofs (disch:=omega)[hρ];refine ⟨[],?_,τ,rfl⟩;rw[aVws_res];rfl
def Pm.one (q:Pm):Pm:={ q with W:=1 }
theorem pr_one (q:Pm):(aPr q).set 0 (.v (.int .i64 1))=aPr q.one:=rfl
set_option maxHeartbeats 4000000 in
theorem J5 (M:Nat) (q:Pm) (hf:okF q.fs) (inp:List Int) (hi:inp.length≤1000000) (n:Nat) (hn:n≤1000000) (he:coreE M q.fs inp q.one=0) (σ:Kx.St):
  FnG Tryz.prog 40 [.agg (Go.Proofs.YtelibaobkcokdaaGreat.aPr M q.fs),aInts inp,.agg (aPr q),.v (.int .i64 n)] σ fun a σ'=>∃jm,a=.ref jm 0 0∧∃pl k,MaR σ jm q.one pl σ' ((mkM q.one M inp).go q.one n) k∧k≤n:=by
 refine Y71 Q91.2 mixed rfl ?_;simp only[Q91,qG];have hac:(AV.agg (Go.Proofs.YtelibaobkcokdaaGreat.aPr M q.fs)).cells=Go.Proofs.YtelibaobkcokdaaGreat.aPr M q.fs:=rfl;have haq:(AV.agg (aPr q)).cells=aPr q:=rfl;have c2:cellsA (some 2) (Go.Proofs.YtelibaobkcokdaaGreat.aPr M q.fs)=some (.agg (Go.Proofs.YtelibaobkcokdaaGreat.aPr M q.fs)):=rfl;have c7:cellsA (some 7) (aPr q.one)=some (.agg (aPr q.one)):=rfl;have x7:(AV.agg (aPr q.one)).exact=true:=rfl;have hII:aInts inp=.sl inp.length (inp.map aInt) .none:=rfl;refine Qc (fun ε σ'=>(ε 1=aInts inp∧ε 3=.v (.int .i64 n)∧ε 4=.ep (Go.Proofs.YtelibaobkcokdaaGreat.aPr M q.fs)∧ε 6=.ref σ.length 0 0)∧σ'=σ++[.obj 0 (aPr q)]) ?_ ?_
 ·intro N X R hN;push_cast -implicitDefEqProofs (disch:=omega);refine Q6 ?_;push_cast -implicitDefEqProofs (disch:=omega)[hac];refine Qs ?_;push_cast -implicitDefEqProofs (disch:=omega)[haq];exact hN _ _ ⟨by push_cast -implicitDefEqProofs (disch:=omega),rfl⟩
 rintro ε σ' ⟨hρ,rfl⟩;refine Qc (fun ε σ'=>(ε 1=aInts inp∧ε 3=.v (.int .i64 n)∧ε 4=.ep (Go.Proofs.YtelibaobkcokdaaGreat.aPr M q.fs)∧ε 6=.ref σ.length 0 0)∧σ'=σ++[.obj 0 (aPr q.one)]) ?_ ?_
 ·intro N X R hN;push_cast -implicitDefEqProofs (disch:=omega)[hρ];refine Q9 rfl rfl (Qe _ _) (show 0 < 7 from by omega) ?_;rw[Qu,pr_one];push_cast -implicitDefEqProofs (disch:=omega)[hρ];exact hN _ _ ⟨by push_cast -implicitDefEqProofs (disch:=omega)[hρ],rfl⟩
 clear hρ ε;rintro ε σ' ⟨hρ,rfl⟩;have hb:(σ++[Res.obj 0 (aPr q.one)])[σ.length]?=some (.obj 0 (aPr q.one)):=Qe _ _;have hsrc:∀σ:Kx.St,srcA σ 1 (aInts inp)=some (inp.length,inp.map aInt):=fun _=>rfl;have h1:(inp.map aInt).all AV.one=true:=by rw[List.all_map];exact List.all_eq_true.2 fun x _=>rfl
 have hln:σ.length < (σ++[Res.obj 0 (aPr q.one)]).length:=by simp
 have hNew:=Z88 M q.one hf inp he (σ++[Res.obj 0 (aPr q.one)]);have hOwn:=Y14 M q.fs hf;have hkeep:∀{jm pl σ' m k},MaR (σ++[Res.obj 0 (aPr q.one)]) jm q.one pl σ' m k→MaR σ jm q.one pl σ' m k:=fun h=>⟨h.ma,h.ok,fun j hj=>(h.keep j eG).trans (List.getElem?_append_left hj),fun ro=>by have:=h.new ro;omega,by have:=h.jn;omega,by have:=h.ln;omega⟩;generalize σ++[Res.obj 0 (aPr q.one)]=S at hb hln hNew hkeep;refine Qc (fun ε σ'=>∃jm,(ε 3=.v (.int .i64 n)∧ε 9=.ref jm 0 0∧ε 10=.v (.int .i64 0))∧∃pl,MaR σ jm q.one pl σ' (mkM q.one M inp) 0) ?_ ?_
 ·intro N X R hN;push_cast -implicitDefEqProofs (disch:=omega)[hρ,c2,hb,c7,x7];refine both2 ?_ ?_
  ·refine Q5 hOwn ?_;push_cast -implicitDefEqProofs (disch:=omega)[hρ,c2,hb,c7,x7];refine QA (sz:=1) ke ke ?_;push_cast -implicitDefEqProofs (disch:=omega)[hρ,c2,hb,c7,x7];refine QP (n:=0) (cs:=[]) (m:=inp.length) rfl (hsrc _) ke h1 rfl ka ka ?_;push_cast -implicitDefEqProofs (disch:=omega)[hρ,c2,hb,c7,x7];refine Q0 hNew ?_;rintro a σ' ⟨jm,rfl,pl,h⟩;push_cast -implicitDefEqProofs (disch:=omega)[hρ,aInt];exact hN _ _ ⟨jm,by push_cast -implicitDefEqProofs (disch:=omega)[hρ],pl,hkeep h⟩
  ·refine QA (sz:=1) ke ke ?_;push_cast -implicitDefEqProofs (disch:=omega)[hρ,c2,hb,c7,x7];refine Q5 hOwn ?_;push_cast -implicitDefEqProofs (disch:=omega)[hρ,c2,hb,c7,x7];refine QP (n:=0) (cs:=[]) (m:=inp.length) rfl (hsrc _) ke h1 rfl ka ka ?_;push_cast -implicitDefEqProofs (disch:=omega)[hρ,c2,hb,c7,x7];refine Q0 hNew ?_;rintro a σ' ⟨jm,rfl,pl,h⟩;push_cast -implicitDefEqProofs (disch:=omega)[hρ,aInt];exact hN _ _ ⟨jm,by push_cast -implicitDefEqProofs (disch:=omega)[hρ],pl,hkeep h⟩
 clear hρ ε hkeep hb hNew hln S;rintro ε σ' ⟨jm,hρ,pl,h⟩;refine Qc (fun ε σ2=>(ε 3=.v (.int .i64 n)∧ε 9=.ref jm 0 0)∧σ2=σ') ?_ ?_
 ·intro N X R hN;push_cast -implicitDefEqProofs (disch:=omega)[hρ];exact hN _ _ ⟨by push_cast -implicitDefEqProofs (disch:=omega)[hρ],rfl⟩
 clear hρ ε;rintro ε σ2 ⟨hρ,rfl⟩;refine Qt (fun ε σ'=>ε 9=.ref jm 0 0∧∃pl k,MaR σ jm q.one pl σ' ((mkM q.one M inp).go q.one n) k∧k≤n) ?_ ?_
 ·intro N hN;push_cast -implicitDefEqProofs (disch:=omega)[hρ]
  refine ZE (α:=Nat) (I:=fun k ε σ'=>(ε 3=.v (.int .i64 n)∧ε 9=.ref jm 0 0∧ε 11=.v (.int .i64 k))∧k≤n∧∃pl,MaR σ jm q.one pl σ' ((mkM q.one M inp).go q.one k) k)
   (μ:=fun k=>n - k) (Q:=fun ε σ'=>ε 9=.ref jm 0 0∧∃pl k,MaR σ jm q.one pl σ' ((mkM q.one M inp).go q.one n) k∧k≤n) (x:=0) ?_ ?_ hN
  ·push_cast -implicitDefEqProofs (disch:=omega)[hρ];exact ⟨by omega,pl,h⟩
  ·clear hN N hρ ε h pl;rintro k ε σ' N E ⟨hρ,hk,pl,h⟩ hN hE;by_cases hlt:k < n
   ·have hb:fillA [AV.v (.int .i64 0),AV.v (.int .i64 0)] [] []=some [AV.v (.int .i64 0),AV.v (.int .i64 0)]:=rfl;push_cast -implicitDefEqProofs (disch:=omega)[hρ,hb];refine Q0 (X03 h ka 0 0) ?_;rintro a σ2 ⟨rfl,pl2,h2⟩;rw[←go_succ] at h2 ⊢
    cases c:((mkM q.one M inp).go q.one (k+1)).ended with
    | true=>
     have e:=go_end c (n - (k+1));rw[show k+1+(n - (k+1))=n by omega] at e;rw[←e] at h2;push_cast -implicitDefEqProofs (disch:=omega)[hρ,aBool]
     first|exact ⟨jm,rfl,pl2,k+1,h2,by omega⟩|exact ⟨jm,pl2,k+1,h2,by omega⟩
    | false=>push_cast -implicitDefEqProofs (disch:=omega)[hρ,aBool];exact hN (k+1) _ _ ⟨by push_cast -implicitDefEqProofs (disch:=omega)[hρ],by omega,pl2,h2⟩ ka
   ·push_cast -implicitDefEqProofs (disch:=omega)[hρ];obtain rfl:k=n:=by omega
    exact hE _ _ ⟨by push_cast -implicitDefEqProofs (disch:=omega)[hρ],pl,k,h,by omega⟩
 clear hρ ε h pl;rintro ε σ3 ⟨hρ,pl,k,h,hk⟩;push_cast -implicitDefEqProofs (disch:=omega)[hρ]
 first|exact ⟨jm,rfl,pl,k,h,hk⟩|exact ⟨pl,k,h,hk⟩
theorem wpa_callwG {P:Program} {σ:Kx.St} {K:AV→Kx.St→Prop} {f:FuncId} {bs bs':List AV} {R:AV→Kx.St→Prop} (is:List Nat) (fs:List Bool) (H:FnG P f bs' (Go.Kx.freeze is σ) R) (he:weak (Go.Kx.freeze is σ) fs bs=bs') (hk:∀a σ',R a σ'→Go.Kx.act (K a σ')):Go.Kx.act (EF.awp P (.call f) bs σ K):=
 wpa_frz is fs (by rw[he];exact Q0 H hk)
def q30:Pm:={ q3 with W:=0 }
theorem r3_go:(mkM q3 0 []).go q3 400=r3:=rfl
theorem r3_core:coreE 0 three [] q3=0:=by decide +kernel
theorem r3_most:1≤mostF r3.c.log:=by decide +kernel
structure Wks (m:Mc):Prop where
 st:m.c.status=1
 ou:m.c.out=[1,2,3]
 us:usedN m.c.held=1
 pk:3≤m.c.peak
 en:m.ended=true
 mo:1≤mostF m.c.log
theorem aRs_app (st:Int) (c:Cs) (pk:Int):(aRs st c pk).all AV.one=true:=by have h1:(aInts c.out).one=true:=rfl;have h2:(aInts c.data).one=true:=rfl;unfold aRs aRg;generalize aInts c.out=X at h1;generalize aInts c.data=Y at h2;have k1:∀x:Int,(AV.v (.int .i64 x)).one=true:=fun _=>rfl;simp only[List.all_cons,List.all_nil,h1,h2,k1];rfl
set_option maxHeartbeats 8000000 in
theorem J6:FnP Tryz.prog 17 [] fun a=>a=aBool true:=by
 refine Qj Zp.2 mixed rfl rfl ?_;simp only[Zp,qH];refine Qc (fun ε σ=>σ=[]) ?_ ?_
 ·intro N X R hN;push_cast -implicitDefEqProofs;exact hN _ _ rfl
 rintro ε σ rfl;refine Qc (fun ε σ=>∃jm,ε 1=.ref jm 0 0∧∃pl m,MaM jm q3 pl σ m∧Wks m∧m.c.log.length≤1000) ?_ ?_
 ·intro N X R hN;push_cast -implicitDefEqProofs;refine Q5 J4 ?_;have hb:fillA [AV.v (.int .i64 0),AV.v (.int .i64 0),AV.v (.int .i64 0),AV.v (.int .i64 0),AV.v (.int .i64 0),AV.v (.bool false),AV.v (.bool false)] [(1,1),(2,1),(3,1),(4,1)] [AV.v (.int .i64 2),AV.v (.int .i64 8),AV.v (.int .i64 8),AV.v (.int .i64 9)]=some (aPr q30):=rfl;push_cast -implicitDefEqProofs[hb];refine wpa_callwG [] [false,true] (J5 0 q30 three_ok [] ke 400 ka r3_core []) rfl ?_;rintro a σ' ⟨jm,rfl,pl,k,h,hk⟩;have e:(mkM q30.one 0 []).go q30.one 400=r3:=r3_go;rw[e] at h;push_cast -implicitDefEqProofs;obtain ⟨a1,a2,a3,a4,a5⟩:=r3_ok;have hlg:=h.ok.lg;exact hN _ _ ⟨jm,by push_cast -implicitDefEqProofs,pl,r3,h.ma,⟨a1,a2,a3,a4,a5,r3_most⟩,by omega⟩
 rintro ε σ ⟨jm,hρ,pl,m,h,hm,hlg⟩;have hln:=h.ln;have hst:m.state=1:=by unfold Mc.state;rw[if_neg (by rw[hm.st];omega)];exact hm.st
 obtain ⟨h1,h2,h3,h4,h5,h6⟩:=hm;have hl1:m.l.length=1:=by have:q3.W=1:=rfl;omega
 have hne:m.c.log≠[]:=by intro e;rw[e] at h6;exact absurd h6 ko
 have hev:aVtsN m.c.log=aVts m.c.log:=if_neg hne;have hou:aInts m.c.out=aInts [1,2,3]:=by rw[h2]
 refine Qt (fun ε σ'=>ε 1=.ref jm 0 0∧σ'=σ) ?_ ?_
 ·intro N hN;push_cast -implicitDefEqProofs[hρ];exact hN _ _ ⟨by push_cast -implicitDefEqProofs[hρ],rfl⟩
 clear hρ ε;rintro ε σ' ⟨hρ,e⟩;rw[e];clear e σ';have hz:setAtA [AV.v (.int .i64 0),AV.v (.int .i64 0),AV.sl 0 [] .nil,AV.sl 0 [] .nil,AV.v (.int .i64 0),AV.v (.int .i64 0),AV.v (.int .i64 0),AV.v (.int .i64 0),AV.v (.int .i64 0),AV.v (.int .i64 0),AV.v (.int .i64 0)] 0 (aRs 1 m.c m.c.peak)=aRs 1 m.c m.c.peak:=Q30 rfl;have hac:(AV.agg (aRs 1 m.c m.c.peak)).cells=aRs 1 m.c m.c.peak:=rfl;refine Qc (fun ε σ'=>(ε 1=.ref jm 0 0∧ε 2=.ref σ.length 0 0)∧σ'=σ++[.obj 0 (aRs 1 m.c m.c.peak)]) ?_ ?_
 ·intro N X R hN;push_cast -implicitDefEqProofs[hρ];refine Q0 (Xi h) ?_;rintro a σ' ⟨rfl,hs⟩;rw[hs,hst];clear hs σ';push_cast -implicitDefEqProofs[hρ];refine Qm ?_;push_cast -implicitDefEqProofs[hac];refine Qd (cs:=[AV.v (.int .i64 0),AV.v (.int .i64 0),AV.sl 0 [] .nil,AV.sl 0 [] .nil,AV.v (.int .i64 0),AV.v (.int .i64 0),AV.v (.int .i64 0),AV.v (.int .i64 0),AV.v (.int .i64 0),AV.v (.int .i64 0),AV.v (.int .i64 0)]) rfl (aRs_app _ _ _) (Qe _ _) (Nat.le_refl 11) ?_;rw[hz,Qu];push_cast -implicitDefEqProofs[hρ];exact hN _ _ ⟨by push_cast -implicitDefEqProofs[hρ],rfl⟩
 clear hρ ε;rintro ε σ' ⟨hρ,rfl⟩;have hA:=h.app [.obj 0 (aRs 1 m.c m.c.peak)];have hb:(σ++[Res.obj 0 (aRs 1 m.c m.c.peak)])[σ.length]?=some (.obj 0 (aRs 1 m.c m.c.peak)):=Qe _ _;have g0:(aRs 1 m.c m.c.peak)[0]?=some (.v (.int .i64 1)):=rfl;have g2:(aRs 1 m.c m.c.peak)[2]?=some (aInts [1,2,3]):=by rw[←hou];rfl
 have g10:(aRs 1 m.c m.c.peak)[4+6]?=some (.v (.int .i64 m.c.peak)):=rfl;have hl0:(m.l.flatMap aVw).length=4:=by rw[Q36 aVw_len,hl1]
 generalize aRs 1 m.c m.c.peak=RS at hA hb g0 g2 g10;generalize σ++[Res.obj 0 RS]=S at hA hb;push_cast -implicitDefEqProofs[hρ];refine Q0 (Q45 hA) ?_;rintro a σ' ⟨rfl,hs⟩;rw[hs,h5];clear hs σ';push_cast -implicitDefEqProofs[hρ,aBool,hb,g0,g2,g10];refine QA (sz:=1) (by intro a ha;simp at ha;rcases ha with rfl|rfl|rfl<;>rfl) ke ?_;push_cast -implicitDefEqProofs;refine wpa_callw [] [false,true] (law05_Ints_a [1,2,3] [1,2,3] ke ke) rfl ?_;rintro a rfl;rw[fzn,beq_self_eq_true];push_cast -implicitDefEqProofs[hρ,aBool];refine Q0 (Xg hA) ?_;rintro a σ' ⟨rfl,hs⟩;rw[hs,h3];clear hs σ';push_cast -implicitDefEqProofs[hρ,aInt];refine Q0 (X57 hA) ?_;rintro a σ' ⟨rfl,hs⟩;rw[hs];clear hs σ';push_cast -implicitDefEqProofs[hρ,aVws,hl1];refine Q0 (Xh hA ka) ?_;rintro a σ' ⟨rfl,hs⟩;rw[hs,hev];clear hs σ';push_cast -implicitDefEqProofs;refine Q5 (Y28 m.c.log ka) ?_;push_cast -implicitDefEqProofs[hρ,aInt,h6,hb,g10,h4];exact oo
end Go.Proofs.YtelibaobkcokdaaGreat.Mx
namespace Go.Proofs.YtelibaobkcokdaaGreat.Mx
set_option linter.unusedVariables false
set_option linter.unusedSimpArgs false
open Go Go.Kx Go.Proofs Go.Proofs.YtelibaobkcokdaaGreat
set_option maxRecDepth 8000
end Go.Proofs.YtelibaobkcokdaaGreat.Mx
namespace Go.Proofs.YtelibaobkcokdaaGreat.Mx
set_option linter.unusedVariables false
set_option linter.unusedSimpArgs false
open Go Go.Kx Go.Proofs Go.Proofs.YtelibaobkcokdaaGreat
set_option maxRecDepth 8000
def two:List (List Ix):=[[⟨1,1,7,0⟩,⟨20,1,0,0⟩,⟨0,0,0,0⟩],[⟨17,1,0,0⟩,⟨0,0,0,0⟩]]
def q2:Pm:=⟨1,1,3,4,2,false,false,two⟩
structure XOk (x:WC) (n:Nat):Prop where
 wk:WkOk x.1
 fr:Fr2 x.2
 hl:x.2.held.length≤1000000
 lg:x.2.log.length≤2 * n
 bk:x.2.back.length≤n
theorem XOk.step {x:WC} {n:Nat} (h:XOk x n) (q:Pm) (v:Int):XOk (wkStep q x v) (n+1):=by obtain ⟨g,k⟩:=g_wkStep (q:=q) (x:=x) h.wk v;exact ⟨k,g.fr h.hl h.fr,by rw[g.hl];exact h.hl,by have:=g.lg;have:=h.lg;omega,by have:=g.bk;have:=h.bk;omega⟩
end Go.Proofs.YtelibaobkcokdaaGreat.Mx
namespace Go.Proofs.YtelibaobkcokdaaGreat.Mx
set_option linter.unusedVariables false
set_option linter.unusedSimpArgs false
open Go Go.Kx Go.Proofs Go.Proofs.YtelibaobkcokdaaGreat
set_option maxRecDepth 8000
end Go.Proofs.YtelibaobkcokdaaGreat.Mx
namespace Go.Proofs.YtelibaobkcokdaaGreat
open Go Go.Kx Go.Proofs
set_option linter.unusedVariables false
set_option maxRecDepth 100000
set_option maxHeartbeats 16000000
def Q49:SCode:=
 .seq (.seq (qr [qm 43 7,qm 44 5,qp 45 (.len false) [qt 44],qb 46 .lss 43 45] [46])
 (.cond (qt 46) .skip (.exit 2)))
 (.seq (.block 3 (.seq (qr [qm 49 5,qm 50 7,qp 51 (.ixa 4) [qt 49,qt 50],qL 52 4 51,qa 53 191 [qt 52],qm 8 53] [8])
 (.seq (.seq (qr [qm 54 8,qc 55 .neq 54 0] [55])
 (.cond (qt 55) (.seq (qr [qm 56 8,qm 2 56] [2])
 .ret) .skip))
 (.seq (qr [qm 57 5,qm 58 7,qp 59 (.ixa 4) [qt 57,qt 58],qf 60 0 59,ql 61 60,qc 62 .eql 61 18,qm 63 62,qg 64 63 true (.pur .mov [qt 5]),qg 65 63 true (.pur .mov [qt 7]),qg 66 63 true (.pur (.ixa 4) [qt 64,qt 65]),qg 67 63 true (.pur (.fla 1) [qt 66]),qg 68 63 true (.ld none (qt 67)),qg 69 63 true (.pur .mov [qt 5]),qg 70 63 true (.pur (.len false) [qt 69]),qg 71 63 true (.pur (.bin .geq) [qt 68,qt 70]),qp 72 .pick [qt 63,qt 71,.const (.bool false)],qm 73 72,qg 74 73 false (.pur .mov [qt 5]),qg 75 73 false (.pur .mov [qt 7]),qg 76 73 false (.pur (.ixa 4) [qt 74,qt 75]),qg 77 73 false (.pur (.fla 0) [qt 76]),qg 78 73 false (.ld none (qt 77)),qg 79 73 false (.pur (.bin .eql) [qt 78,qi 19]),qg 80 73 false (.pur .mov [qt 79]),qg 81 80 true (.pur .mov [qt 5]),qg 82 80 true (.pur .mov [qt 7]),qg 83 80 true (.pur (.ixa 4) [qt 81,qt 82]),qg 84 80 true (.pur (.fla 2) [qt 83]),qg 85 80 true (.ld none (qt 84)),qg 86 80 true (.pur .mov [qt 5]),qg 87 80 true (.pur (.len false) [qt 86]),qg 88 80 true (.pur (.bin .geq) [qt 85,qt 87]),qg 89 73 false (.pur .pick [qt 80,qt 88,.const (.bool false)]),qp 90 .pick [qt 73,.const (.bool true),qt 89],qm 91 90,qg 92 91 false (.pur .mov [qt 5]),qg 93 91 false (.pur .mov [qt 7]),qg 94 91 false (.pur (.ixa 4) [qt 92,qt 93]),qg 95 91 false (.pur (.fla 0) [qt 94]),qg 96 91 false (.ld none (qt 95)),qg 97 91 false (.pur (.bin .eql) [qt 96,qi 20]),qg 98 91 false (.pur .mov [qt 97]),qg 99 98 false (.pur .mov [qt 5]),qg 100 98 false (.pur .mov [qt 7]),qg 101 98 false (.pur (.ixa 4) [qt 99,qt 100]),qg 102 98 false (.pur (.fla 0) [qt 101]),qg 103 98 false (.ld none (qt 102)),qg 104 98 false (.pur (.bin .eql) [qt 103,qi 22]),qg 105 91 false (.pur .pick [qt 98,.const (.bool true),qt 104]),qg 106 91 false (.pur .mov [qt 105]),qg 107 106 true (.pur .mov [qt 5]),qg 108 106 true (.pur .mov [qt 7]),qg 109 106 true (.pur (.ixa 4) [qt 107,qt 108]),qg 110 106 true (.pur (.fla 1) [qt 109]),qg 111 106 true (.ld none (qt 110)),qg 112 106 true (.pur (.fla 1) [qt 1]),qg 113 106 true (.ld none (qt 112)),qg 114 106 true (.pur (.len false) [qt 113]),qg 115 106 true (.pur (.bin .geq) [qt 111,qt 114]),qg 116 91 false (.pur .pick [qt 106,qt 115,.const (.bool false)]),qp 117 .pick [qt 91,.const (.bool true),qt 116]] [117])
 (.cond (qt 117) (.seq (qr [qp 2 .mov [qi 11]] [2])
 .ret) .skip)))))
 (qr [qm 47 7,qc 48 .add 47 1,qm 7 48] [7]))
def Q50:SCode:=
 .seq (.seq (qr [qm 25 4,qf 26 1 1,ql 27 26,qp 28 (.len false) [qt 27],qb 29 .lss 25 28] [29])
 (.cond (qt 29) .skip (.exit 0)))
 (.seq (.block 1 (.seq (qr [qf 32 1 1,ql 33 32,qm 34 4,qp 35 (.ixa 1) [qt 33,qt 34],ql 36 35,qm 5 36] [5])
 (.seq (qr [qm 37 5,qp 38 (.len false) [qt 37],qa 39 190 [qt 38,qi 200],qm 6 39] [6])
 (.seq (.seq (qr [qm 40 6,qc 41 .neq 40 0] [41])
 (.cond (qt 41) (.seq (qr [qm 42 6,qm 2 42] [2])
 .ret) .skip))
 (.seq (.seq (qr [qp 7 .mov [qi 0]] [7])
 (.block 2 (.loop Q49)))
 (.seq (qr [qm 118 5,qm 119 5,qp 120 (.len false) [qt 119],qc 121 .sub 120 1,qp 122 (.ixa 4) [qt 118,qt 121],qf 123 0 122,ql 124 123,qm 9 124] [9])
 (.seq (qr [qm 125 9,qc 126 .neq 125 0,qm 127 126,qg 128 127 true (.pur .mov [qt 9]),qg 129 127 true (.pur (.bin .neq) [qt 128,qi 18]),qp 130 .pick [qt 127,qt 129,.const (.bool false)],qm 131 130,qg 132 131 true (.pur .mov [qt 9]),qg 133 131 true (.pur (.bin .neq) [qt 132,qi 25]),qp 134 .pick [qt 131,qt 133,.const (.bool false)]] [134])
 (.cond (qt 134) (.seq (qr [qp 2 .mov [qi 12]] [2])
 .ret) .skip))))))))
 (qr [qm 30 4,qc 31 .add 30 1,qm 4 31] [4]))
def Zr:Fun:=⟨135,[2,0,1,17,3,23,4,29,5,6,41,7,46,8,55,117,9,134],[.tmp 2],
 .seq (qr [qe 1 (.box 33) [qt 0],qp 2 .mov [qi 0]] [1,2])
 (.seq (.seq (qr [qf 10 0 1,ql 11 10,qc 12 .lss 11 0,qm 13 12,qg 14 13 false (.pur (.fla 0) [qt 1]),qg 15 13 false (.ld none (qt 14)),qg 16 13 false (.pur (.bin .gtr) [qt 15,qi 256]),qp 17 .pick [qt 13,.const (.bool true),qt 16]] [17])
 (.cond (qt 17) (.seq (qr [qp 2 .mov [qi 3]] [2])
 .ret) .skip))
 (.seq (qr [qf 18 1 1,ql 19 18,qp 20 (.len false) [qt 19],qa 21 190 [qt 20,qi 16],qm 3 21] [3])
 (.seq (.seq (qr [qm 22 3,qc 23 .neq 22 0] [23])
 (.cond (qt 23) (.seq (qr [qm 24 3,qm 2 24] [2])
 .ret) .skip))
 (.seq (.seq (qr [qp 4 .mov [qi 0]] [4])
 (.block 0 (.loop Q50)))
 (.seq (qr [qp 2 .mov [qi 0]] [2])
 .ret)))))⟩
theorem XT:compF Tryz.prog 107=some Zr:=by kernel_rfl
noncomputable def ZX:=qH Tryz.prog 190
noncomputable def Zs:=qH Tryz.prog 191
noncomputable def ZY:=qH Tryz.prog 257
noncomputable def ZZ:=qH Tryz.prog 258
noncomputable def Zt:=qH Tryz.prog 293
end Go.Proofs.YtelibaobkcokdaaGreat
