/- The machine: how many iterations are active by events: as the chapter says. The machine: how many iterations are active by events: the walks. The machine: runs of one worker; works. The machine: works. MachineCounts: the walk; shapes of what comes in. -/
import Derived.Test.YtelibaobkcokdaaGreatQU2M4
import Derived.Test.YtelibaobkcokdaaGreatQU2Prb
namespace Go.Proofs.YtelibaobkcokdaaGreat.Mx
set_option linter.unusedVariables false
set_option linter.unusedSimpArgs false
open Go Go.Kx Go.Proofs Go.Proofs.YtelibaobkcokdaaGreat
set_option maxRecDepth 8000
def moreI (k:Int):Int:=if k=1 then 1 else if k=4 then -1 else 0
def actv (l:List Vt) (p:Int):Int:=l.foldl (fun n e=>if e.loop=p then n+moreI e.kind else n) 0
theorem actv_snoc (l:List Vt) (e:Vt) (p:Int):actv (l++[e]) p=if e.loop=p then actv l p+moreI e.kind else actv l p:=by
 unfold actv;rw[List.foldl_append];rfl
def lpAt (l:List Vt) (i:Nat):Int:=match l[i]? with|some e=>e.loop|none=>0
def mostAt (l:List Vt):Nat→Int
 | 0=>0
 | i+1=>max (mostAt l i) (actv (l.take (i+1)) (lpAt l i))
theorem mostAt_s (l:List Vt) (i:Nat):mostAt l (i+1)=max (mostAt l i) (actv (l.take (i+1)) (lpAt l i)):=rfl
def mostF (l:List Vt):Int:=mostAt l l.length
theorem moreI_b (k:Int):-1≤moreI k∧moreI k≤1:=by
 unfold moreI
 repeat' split
 all_goals omega
theorem actv_b (l:List Vt) (p:Int):-(l.length:Int)≤actv l p∧actv l p≤l.length:=by
 induction l using snoc_ind with
 | h0=>simp[actv]
 | hs l e ih=>
  rw[actv_snoc]
  have:=moreI_b e.kind
  simp only[List.length_append,List.length_singleton]
  split<;>omega
theorem mostAt_b (l:List Vt):∀i,0≤mostAt l i∧mostAt l i≤l.length:=by
 intro i
 induction i with
 | zero=>simp[mostAt]
 | succ i ih=>
  have:=actv_b (l.take (i+1)) (lpAt l i)
  have h2:(l.take (i+1)).length≤l.length:=by rw[List.length_take];omega
  rw[mostAt_s];omega
def UB (l:List Vt) (i k:Nat) (x:Int):Prop:=0≤x∧x≤l.length∧∀y,0≤y→(x≤y↔(∀i',i' < i→∀k',k' < i'→actv (l.take i') (lpAt l k')≤y)∧∀k',k' < k→actv (l.take i) (lpAt l k')≤y)
def active (l:List Vt) (p:Int):Int:=max (actv l p) 0
theorem UB.zero (l:List Vt):UB l 0 0 0:=⟨by omega,by omega,fun y hy=>⟨fun _=>⟨fun i h=>by omega,fun k h=>by omega⟩,fun _=>hy⟩⟩
theorem UB.next {l:List Vt} {i k:Nat} {x:Int} (h:UB l i k x) (hi:i≤l.length):UB l i (k+1) (max x (active (l.take i) (lpAt l k))):=by
 obtain ⟨h0,h1,h2⟩:=h
 have hb:=actv_b (l.take i) (lpAt l k)
 have hl:(l.take i).length≤l.length:=by rw[List.length_take];omega
 refine ⟨by omega,by unfold active;omega,fun y hy=>?_⟩
 have e:max x (active (l.take i) (lpAt l k))≤y↔x≤y∧actv (l.take i) (lpAt l k)≤y:=by unfold active;omega
 rw[e,h2 y hy]
 constructor
 ·rintro ⟨⟨a,b⟩,c⟩
  refine ⟨a,fun k' hk=>?_⟩
  by_cases hc:k'=k
  ·subst hc;exact c
  ·exact b k' (by omega)
 ·rintro ⟨a,b⟩
  exact ⟨⟨a,fun k' hk=>b k' (by omega)⟩,b k (by omega)⟩
def getI (A:List (Int×Int)) (i:Int):Int:=match A with|[]=>0|p::A=>if i=p.1 then p.2 else getI A i
def putI (A:List (Int×Int)) (i x:Int):List (Int×Int):=match A with|[]=>[(i,x)]|p::A=>if i=p.1 then (i,x)::A else p::putI A i x
def esI (A:List (Int×Int)):List (Value×AV):=A.map fun p=>(.int .i64 p.1,.v (.int .i64 p.2))
theorem getM_I (A:List (Int×Int)) (i:Int):getM (.int .i64) (absV (.int .i64 0)) (.int .i64 i) (esI A)=some (.v (.int .i64 (getI A i))):=by
 induction A with
 | nil=>rfl
 | cons p A ih=>
  simp only[esI,List.map_cons,getM,eqC,if_true,getI] at ih ⊢
  by_cases h:i=p.1
  ·subst h;simp
  ·rw[show (i==p.1)=false by simpa using h,if_neg h]
   exact ih
theorem putM_I (A:List (Int×Int)) (i x:Int):putM (.int .i64) (.int .i64 i) (.v (.int .i64 x)) (esI A)=some (esI (putI A i x)):=by
 induction A with
 | nil=>rfl
 | cons p A ih=>
  simp only[esI,List.map_cons,putM,eqC,if_true,putI] at ih ⊢
  by_cases h:i=p.1
  ·subst h;simp[Instr.sameBits]
  ·rw[show (i==p.1)=false by simpa using h,if_neg h]
   simp only[ih,Option.map_some,List.map_cons]
theorem getI_putI (A:List (Int×Int)) (i x j:Int):getI (putI A i x) j=if j=i then x else getI A j:=by
 induction A with
 | nil=>simp[putI,getI]
 | cons p A ih=>
  simp only[putI]
  by_cases h:i=p.1
  ·subst h
   simp only[if_true,getI]
   split<;>rfl
  ·rw[if_neg h]
   simp only[getI,ih]
   by_cases h2:j=p.1
   ·rw[if_pos h2,if_pos h2,if_neg (by omega)]
   ·rw[if_neg h2,if_neg h2]
def aVts (l:List Vt):AV:=.sl l.length (l.flatMap aVt) .none
theorem aVts_pure (l:List Vt):(aVts l).pure=true:=by
 have:AV.pureL (l.flatMap aVt)=true:=by
  induction l with
  | nil=>rfl
  | cons x l ih=>rw[List.flatMap_cons,show ∀k,AV.pureL (aVt x++k)=AV.pureL k from fun k=>by simp[aVt,AV.pureL,AV.pure]];exact ih
 simp[aVts,AV.pure,this]
theorem c4v (e:Vt) (t:List AV):cellsA (some 4) (aVt e++t)=some (.agg (aVt e)):=by simp[cellsA,aVt]
theorem X81 (e:Vt):FnP Tryz.prog 60 [.agg (aVt e)] fun a=>a=aInt (moreI e.kind):=by
 refine Qg J32 mixed rfl (by simp[AV.pureL,AV.pure,aVt]) ?_
 simp only[X80]
 have hac:(AV.agg (aVt e)).cells=aVt e:=rfl
 have g0:(aVt e)[0]?=some (.v (.int .i64 e.kind)):=rfl
 have g0':(aVt e)[Int.toNat 0]?=some (.v (.int .i64 e.kind)):=rfl
 by_cases c1:e.kind=1
 ·have hm:moreI e.kind=1:=by unfold moreI;rw[if_pos c1]
  rw[hm]
  push_cast (maxSteps:=999999) -implicitDefEqProofs (disch:=omega)
  refine Q3 ?_
  push_cast (maxSteps:=999999) -implicitDefEqProofs (disch:=omega)[hac,g0,g0',c1]
  first|exact ⟨[],rfl,rfl⟩|exact ⟨[],rfl⟩
 by_cases c4:e.kind=4
 ·have hm:moreI e.kind=-1:=by unfold moreI;rw[if_neg c1,if_pos c4]
  rw[hm]
  push_cast (maxSteps:=999999) -implicitDefEqProofs (disch:=omega)
  refine Q3 ?_
  push_cast (maxSteps:=999999) -implicitDefEqProofs (disch:=omega)[hac,g0,g0',c4]
  first|exact ⟨[],rfl,rfl⟩|exact ⟨[],rfl⟩
 ·have hm:moreI e.kind=0:=by unfold moreI;rw[if_neg c1,if_neg c4]
  rw[hm]
  push_cast (maxSteps:=999999) -implicitDefEqProofs (disch:=omega)
  refine Q3 ?_
  push_cast (maxSteps:=999999) -implicitDefEqProofs (disch:=omega)[hac,g0,g0',c1,c4]
  first|exact ⟨[],rfl,rfl⟩|exact ⟨[],rfl⟩
theorem w64_sm {n:Int} (h0:-1000000000≤n) (h1:n≤1000000000):IntKind.i64.wrap n=n:=Q97 (by omega) (by omega)
set_option maxHeartbeats 4000000 in
theorem J34 (l:List Vt) (hl:l.length≤1000000):FnP Tryz.prog 24 [aVts l] fun a=>a=aInt (mostF l):=by
 refine Qg J31 mixed rfl (by simp[AV.pureL,AV.pure,aVts_pure]) ?_
 simp only[X79]
 push_cast (maxSteps:=999999) -implicitDefEqProofs (disch:=omega)[aVts]
 refine wpa_mkm ?_
 push_cast (maxSteps:=999999) -implicitDefEqProofs (disch:=omega)
 refine Xd (α:=Nat) (I:=fun k ε σ=>(ε 3=.v (.int .i64 (mostAt l k))∧ε 4=.mp 0∧ε 8=.sl l.length (l.flatMap aVt) .none∧ε 9=.v (.int .i64 l.length)∧ε 10=.v (.int .i64 k))∧k≤l.length∧∃A,σ[0]?=some (.map (esI A))∧∀p,getI A p=actv (l.take k) p)
  (μ:=fun k=>l.length - k) (Q:=fun ε σ=>ε 3=.v (.int .i64 (mostF l))) (x:=0) ?_ ?_ ?_
 ·have e0:mostAt l 0=0:=rfl
  push_cast (maxSteps:=999999) -implicitDefEqProofs (disch:=omega)[e0]
  refine ⟨by omega,[],rfl,fun p=>rfl⟩
 ·rintro k ε σ N E ⟨hρ,hk,A,hA,hp⟩ hN hE
  simp only[Z81]
  by_cases hlt:k < l.length
  ·obtain ⟨e,he⟩:=Q09 hlt
   have hd:=QH aVt_len he
   have hset:setAtA [AV.v (.int .i64 0),AV.v (.int .i64 0),AV.v (.int .i64 0),AV.v (.int .i64 0)] 0 (aVt e)=aVt e:=rfl
   have g1:(aVt e)[1]?=some (.v (.int .i64 e.loop)):=rfl
   have c4:cellsA (some 4) (aVt e)=some (.agg (aVt e)):=rfl
   have x4:(AV.agg (aVt e)).exact=true:=rfl
   have hs:=actv_snoc (l.take k) e
   rw[←Qs he] at hs
   have hb:=actv_b (l.take k) e.loop
   have hlk:(l.take k).length=k:=by rw[List.length_take];omega
   have hm:=moreI_b e.kind
   have hw:=w64_sm (n:=actv (l.take k) e.loop+moreI e.kind) (by omega) (by omega)
   have hlp:lpAt l k=e.loop:=by unfold lpAt;rw[he]
   have hat:mostAt l (k+1)=max (mostAt l k) (actv (l.take (k+1)) e.loop):=by rw[←hlp];rfl
   have hsl:=hs e.loop
   rw[if_pos rfl] at hsl
   have hmb:=mostAt_b l k
   have hgm:=getM_I A e.loop
   rw[hp] at hgm
   have hpu:=putM_I A e.loop (actv (l.take k) e.loop+moreI e.kind)
   have hgm2:=getM_I (putI A e.loop (actv (l.take k) e.loop+moreI e.kind)) e.loop
   rw[getI_putI,if_pos rfl] at hgm2
   have hp2:∀p,getI (putI A e.loop (actv (l.take k) e.loop+moreI e.kind)) p=actv (l.take (k+1)) p:=by
    intro p
    rw[getI_putI,hs p]
    by_cases c:p=e.loop
    ·subst c;simp
    ·rw[if_neg c,if_neg (fun e=>c e.symm),hp]
   have hA1:(σ++[Res.obj 0 (aVt e)])[0]?=some (.map (esI A)):=Qj hA
   have hb1:(σ++[Res.obj 0 (aVt e)])[σ.length]?=some (.obj 0 (aVt e)):=Qc _ _
   have hpos:=Qe hA
   push_cast (maxSteps:=999999) -implicitDefEqProofs (disch:=omega)[hρ,hd,c4v]
   refine Qb ?_
   push_cast (maxSteps:=999999) -implicitDefEqProofs (disch:=omega)
   refine Q8 (cs:=[AV.v (.int .i64 0),AV.v (.int .i64 0),AV.v (.int .i64 0),AV.v (.int .i64 0)]) rfl rfl (Qc _ _) (by simp) ?_
   rw[hset,Qq]
   generalize hS:σ++[Res.obj 0 (aVt e)]=S at hA1 hb1 ⊢
   generalize hb:σ.length=i0 at hb1 hpos ⊢
   clear hS hb
   have hb2:∀r,(S.set 0 r)[i0]?=some (.obj 0 (aVt e)):=fun r=>Q4 (by omega) hb1
   have hA2:∀r,(S.set 0 r)[0]?=some r:=fun r=>Qa hA1
   have fin:∀ε':AEnv,((ε' 3=.v (.int .i64 (mostAt l (k+1)))∧ε' 4=.mp 0∧ε' 8=.sl l.length (l.flatMap aVt) .none∧ε' 9=.v (.int .i64 l.length)∧ε' 10=.v (.int .i64 ((k+1:Nat):Int))))→Go.Kx.act (N ε' (S.set 0 (.map (esI (putI A e.loop (actv (l.take k) e.loop+moreI e.kind)))))):=fun ε' h=>hN (k+1) _ _ ⟨h,by omega,_,hA2 _,hp2⟩ (by omega)
   have hmx:max (mostAt l k) (actv (l.take k) e.loop+moreI e.kind)=mostAt l (k+1):=by rw[hat,hsl]
   push_cast (maxSteps:=999999) -implicitDefEqProofs (disch:=omega)[hρ,hb1,g1,c4,x4]
   refine both2 ?_ ?_
   ·refine J80 hA1 hgm ?_
    push_cast (maxSteps:=999999) -implicitDefEqProofs (disch:=omega)[hb1,c4,x4]
    refine Q1 (X81 e) ?_
    rintro a rfl
    push_cast (maxSteps:=999999) -implicitDefEqProofs (disch:=omega)[aInt,hw]
    refine wpa_mup hA1 hpu ?_
    push_cast (maxSteps:=999999) -implicitDefEqProofs (disch:=omega)[hρ,hb2,g1]
    refine J80 (hA2 _) hgm2 ?_
    push_cast (maxSteps:=999999) -implicitDefEqProofs (disch:=omega)[hmx,hρ]
    refine fin _ ?_
    push_cast (maxSteps:=999999) -implicitDefEqProofs (disch:=omega)[hρ]
   ·refine Q1 (X81 e) ?_
    rintro a rfl
    push_cast (maxSteps:=999999) -implicitDefEqProofs (disch:=omega)[aInt,hb1,g1]
    refine J80 hA1 hgm ?_
    push_cast (maxSteps:=999999) -implicitDefEqProofs (disch:=omega)[hw]
    refine wpa_mup hA1 hpu ?_
    push_cast (maxSteps:=999999) -implicitDefEqProofs (disch:=omega)[hρ,hb2,g1]
    refine J80 (hA2 _) hgm2 ?_
    push_cast (maxSteps:=999999) -implicitDefEqProofs (disch:=omega)[hmx,hρ]
    refine fin _ ?_
    push_cast (maxSteps:=999999) -implicitDefEqProofs (disch:=omega)[hρ]
  ·push_cast (maxSteps:=999999) -implicitDefEqProofs (disch:=omega)[hρ]
   refine hE _ _ ?_
   obtain rfl:k=l.length:=by omega
   push_cast (maxSteps:=999999) -implicitDefEqProofs (disch:=omega)[hρ]
   rfl
 ·intro ε σ hρ
  push_cast (maxSteps:=999999) -implicitDefEqProofs (disch:=omega)[hρ]
  first|exact ⟨[],rfl,rfl⟩|exact ⟨[],rfl⟩
theorem X20 (l k:List Int) (hl:l.length≤1000000) (hk:k.length≤1000000):FnP Tryz.prog 41 [aInts l,aInts k] fun a=>a=aBool (l==k):=by
 refine Qg X99 mixed rfl (by simp[AV.pureL,ZG]) ?_
 simp only[Z01,aInts,aSl]
 by_cases hle:l.length=k.length
 ·push_cast (maxSteps:=999999) -implicitDefEqProofs (disch:=omega)[hle]
  refine Xd (α:=Nat) (I:=fun t ε σ=>(ε 0=.sl l.length (l.map aInt) .none∧ε 1=.sl k.length (k.map aInt) .none∧ε 5=.v (.int .i64 t))∧t≤l.length∧l.take t=k.take t)
   (μ:=fun t=>l.length - t) (Q:=fun _ _=>l=k) (x:=0) ?_ ?_ ?_
  ·push_cast (maxSteps:=999999) -implicitDefEqProofs (disch:=omega)[hle]
   omega
  ·rintro t ε σ N E ⟨hρ,ht,heq⟩ hN hE
   simp only[Q59]
   by_cases hlt:t < l.length
   ·obtain ⟨x,hx⟩:=Q09 hlt
    obtain ⟨y,hy⟩:=Q09 (l:=k) (k:=t) (by omega)
    by_cases he:x=y
    ·subst he
     push_cast (maxSteps:=999999) -implicitDefEqProofs (disch:=omega)[hρ,hx,hy,aInt]
     refine hN (t+1) _ _ ?_ (by omega)
     push_cast (maxSteps:=999999) -implicitDefEqProofs (disch:=omega)[hρ]
     exact ⟨by omega,by rw[Qs hx,Qs hy,heq]⟩
    ·push_cast (maxSteps:=999999) -implicitDefEqProofs (disch:=omega)[hρ,hx,hy,aInt,he]
     refine fin_v ?_
     have:l≠k:=by
      intro e;subst e;rw[hx] at hy;cases hy;exact he rfl
     simp[aBool,this]
   ·push_cast (maxSteps:=999999) -implicitDefEqProofs (disch:=omega)[hρ]
    refine hE _ _ ?_
    rwa [List.take_of_length_le (by omega),List.take_of_length_le (by omega)] at heq
  ·intro ε σ h
   push_cast (maxSteps:=999999) -implicitDefEqProofs (disch:=omega)
   exact fin_v (by simp[aBool,h])
 ·push_cast (maxSteps:=999999) -implicitDefEqProofs (disch:=omega)[hle]
  refine fin_v ?_
  have:l≠k:=by intro e;subst e;exact hle rfl
  simp[aBool,this]
structure MaR (σ0:Kx.St) (jm:Nat) (q:Pm) (pl:Pl) (σ:Kx.St) (m:Mc) (n:Nat):Prop where
 ma:MaM jm q pl σ m
 ok:McOk m n
 keep:∀j,j < σ0.length→σ[j]?=σ0[j]?
 new:∀ro,σ0.length≤pl.p ro
 jn:σ0.length≤jm
 ln:σ0.length≤σ.length
theorem MaR.next {σ0:Kx.St} {jm:Nat} {q:Pm} {pl pl':Pl} {σ σ':Kx.St} {m:Mc} {n:Nat} (h:MaR σ0 jm q pl σ m n) {a b:Int} (h':MaM jm q pl' σ' (m.step q a b)) (X:Ext pl pl' σ σ'):MaR σ0 jm q pl' σ' (m.step q a b) (n+1):=by
 refine ⟨h',h.ok.step q a b,fun j hj=>?_,fun ro=>?_,h.jn,by have:=X.len;have:=h.ln;omega⟩
 ·rw[X.keep j (by have:=h.ln;omega) fun ro=>by have:=h.new ro;omega]
  exact h.keep j hj
 ·rcases X.new ro with e|e
  ·rw[e];exact h.new ro
  ·have:=h.ln;omega
theorem J35 {σ0:Kx.St} {jm:Nat} {q:Pm} {pl:Pl} {σ:Kx.St} {m:Mc} {n:Nat} (h:MaR σ0 jm q pl σ m n) (hn:n≤400000000) (worker victim:Int):
  FnG Tryz.prog 21 [.ref jm 0 0,.agg [.v (.int .i64 worker),.v (.int .i64 victim)]] σ fun a σ'=>a=aBool (m.step q worker victim).ended∧∃pl',MaR σ0 jm q pl' σ' (m.step q worker victim) (n+1):=
 (Q67 h.ma h.ok hn worker victim).mono fun a σ' ⟨pl',h1,h2,h3⟩=>⟨h1,pl',h.next h2 h3⟩
theorem Q38 (M:Nat) (q:Pm) (hf:okF q.fs) (inp:List Int) (he:coreE M q.fs inp q=0) (σ:Kx.St):FnG Tryz.prog 19 [.agg (Go.Proofs.YtelibaobkcokdaaGreat.aPr M q.fs),aInts inp,.agg (aPr q)] σ fun a σ'=>∃jm,a=.tup [.ref jm 0 0,aInt 0]∧∃pl,MaR σ jm q pl σ' (mkM q M inp) 0:=
 (Ga M q hf inp he σ).mono fun a σ' ⟨jm,pl,h1,h2,h3,h4,h5⟩=>⟨jm,h1,pl,h2,mkM_ok h2.mm.sd.ok M inp,h3,h4,h5,by have:=h2.mm.lt .c;have:=h4 .c;omega⟩
theorem coreE_m {m:Int} {fs:List (List Ix)} {inp:List Int} {q:Pm} (h:coreE m fs inp q=0):0≤m:=by
 unfold coreE at h
 split at h
 ·exact absurd h ‹_›
 ·split at h
  ·cases h
  ·split at h
   ·cases h
   ·omega
theorem step_end {m:Mc} {q:Pm} (h:m.ended=true) (a b:Int):m.step q a b=m:=by unfold Mc.step;rw[if_pos h]
def Mc.go (q:Pm) (m:Mc) (n:Nat):Mc:=m.run q (List.replicate n (0,0))
theorem go_succ (q:Pm) (m:Mc) (n:Nat):m.go q (n+1)=(m.go q n).step q 0 0:=by
 unfold Mc.go Mc.run
 rw[List.replicate_succ',List.foldl_append];rfl
theorem go_end {q:Pm} {m:Mc} {n:Nat} (h:(m.go q n).ended=true) (k:Nat):m.go q (n+k)=m.go q n:=by
 induction k with
 | zero=>rfl
 | succ k ih=>rw[show n+(k+1)=(n+k)+1 from rfl,go_succ,ih,step_end h]
theorem three_ok:okF three:=⟨by decide,by decide⟩
theorem Gd:FnP Tryz.prog 53 [] fun a=>a=.agg (Go.Proofs.YtelibaobkcokdaaGreat.aPr 0 three):=by
 refine Qg X65 mixed rfl rfl ?_
 simp only[Zs]
 have b4:∀a b c d:Int,fillA [AV.v (.int .i64 0),AV.v (.int .i64 0),AV.v (.int .i64 0),AV.v (.int .i64 0)] [(0,1),(1,1),(2,1),(3,1)] [.v (.int .i64 a),.v (.int .i64 b),.v (.int .i64 c),.v (.int .i64 d)]=some (aIx ⟨a,b,c,d⟩):=fun _ _ _ _=>rfl
 have b3:∀a b c:Int,fillA [AV.v (.int .i64 0),AV.v (.int .i64 0),AV.v (.int .i64 0),AV.v (.int .i64 0)] [(0,1),(1,1),(2,1)] [.v (.int .i64 a),.v (.int .i64 b),.v (.int .i64 c)]=some (aIx ⟨a,b,c,0⟩):=fun _ _ _=>rfl
 have b2:∀a b:Int,fillA [AV.v (.int .i64 0),AV.v (.int .i64 0),AV.v (.int .i64 0),AV.v (.int .i64 0)] [(0,1),(1,1)] [.v (.int .i64 a),.v (.int .i64 b)]=some (aIx ⟨a,b,0,0⟩):=fun _ _=>rfl
 have b1:∀a:Int,fillA [AV.v (.int .i64 0),AV.v (.int .i64 0),AV.v (.int .i64 0),AV.v (.int .i64 0)] [(0,1)] [.v (.int .i64 a)]=some (aIx ⟨a,0,0,0⟩):=fun _=>rfl
 have hx:∀x:Ix,(AV.agg (aIx x)).cells=aIx x:=fun _=>rfl
 push_cast (maxSteps:=999999) -implicitDefEqProofs (disch:=omega)
 refine Qb ?_
 push_cast (maxSteps:=999999) -implicitDefEqProofs (disch:=omega)[b4,b3,b2,b1]
 refine Qt (sz:=4) (by intro a ha;simp at ha;rcases ha with rfl|rfl|rfl|rfl<;>rfl) (by simp) ?_
 push_cast (maxSteps:=999999) -implicitDefEqProofs (disch:=omega)[b4,b3,b2,b1,hx]
 refine Qt (sz:=4) (by intro a ha;simp at ha;rcases ha with rfl|rfl|rfl|rfl|rfl|rfl|rfl<;>rfl) (by simp) ?_
 push_cast (maxSteps:=999999) -implicitDefEqProofs (disch:=omega)[b4,b3,b2,b1,hx]
 refine Qt (sz:=1) (by intro a ha;simp at ha;rcases ha with rfl|rfl<;>rfl) (by simp) ?_
 have hb:∀a b:AV,fillA [AV.v (.int .i64 0),.sl 0 [] .nil] [(1,1)] [.sl 2 [a,b] .full]=some [.v (.int .i64 0),.sl 2 [a,b] .full]:=fun _ _=>rfl
 push_cast (maxSteps:=999999) -implicitDefEqProofs (disch:=omega)[AV.cells,hb]
 refine Q8 (cs:=[AV.v (.int .i64 0),.sl 0 [] .nil]) rfl rfl rfl (by decide) ?_
 have c2:∀a b:AV,cellsA (some 2) [AV.v (.int .i64 0),.sl 2 [a,b] .full]=some (.agg [AV.v (.int .i64 0),.sl 2 [a,b] .full]):=fun _ _=>rfl
 push_cast (maxSteps:=999999) -implicitDefEqProofs (disch:=omega)[c2]
 exact ⟨[],rfl,rfl⟩
def aVws (L:List Wk):AV:=.sl L.length (L.flatMap aVw) .none
theorem Gf (w:Wk):(aVw w).length=4:=rfl
theorem aVws_res (σ:Kx.St) (L:List Wk) (t:Tok) (n:Nat):(AV.sl n (L.flatMap aVw) t).res σ=.sl n (L.flatMap aVw) .none:=by
 have:AV.resL σ (L.flatMap aVw)=L.flatMap aVw:=by
  induction L with
  | nil=>rfl
  | cons x l ih=>rw[List.flatMap_cons];simp[aVw,AV.resL,AV.res,ih]
 show AV.sl n (AV.resL σ (L.flatMap aVw)) _=_
 rw[this]
theorem aVws_low (n:Nat) (L:List Wk):(aVws L).low n=true:=by
 have:AV.lowL n (L.flatMap aVw)=true:=by
  induction L with
  | nil=>rfl
  | cons x l ih=>rw[List.flatMap_cons];simp[aVw,AV.lowL,AV.low,ih]
 simp[aVws,AV.low,this]
set_option maxHeartbeats 4000000 in
theorem Q64 {jm:Nat} {q:Pm} {pl:Pl} {σ:Kx.St} {m:Mc} (h:MaM jm q pl σ m):FnG Tryz.prog 28 [.ref jm 0 0] σ fun a σ'=>a=aVws m.l∧σ'=σ:=by
 refine FnG.drop0 (fun a ha=>by subst ha;exact aVws_low _ _) (FnG.fz ?_)
 refine Q2 Z51 mixed rfl ?_
 simp only[Q11]
 obtain ⟨t,ht⟩:=h.mo
 have hln:=h.ln
 have hW:=h.mm.sd.ok.1
 generalize hRL:(List.range m.l.length).map (fun k=>AV.ref (pl.p (.wk k)) 0 0)=RL at ht
 have hRl:∀k,k < m.l.length→RL[k]?=some (.ref (pl.p (.wk k)) 0 0):=fun k hk=>by rw[←hRL,List.getElem?_map,List.getElem?_range hk];rfl
 refine Q9 (fun ε σ'=>ε 0=.ref jm 0 0∧σ'=σ) ?_ ?_
 ·intro N X R hN
  push_cast (maxSteps:=999999) -implicitDefEqProofs (disch:=omega)
  exact hN _ _ ⟨by push_cast (maxSteps:=999999) -implicitDefEqProofs (disch:=omega),rfl⟩
 rintro ε σ' ⟨hρ,e⟩
 rw[e];clear e σ'
 refine Qm (fun ε σ'=>ε 0=.ref jm 0 0∧σ'=σ) ?_ ?_
 ·intro N hN
  push_cast (maxSteps:=999999) -implicitDefEqProofs (disch:=omega)[hρ]
  exact hN _ _ ⟨by push_cast (maxSteps:=999999) -implicitDefEqProofs (disch:=omega)[hρ],rfl⟩
 clear hρ ε
 rintro ε σ' ⟨hρ,e⟩
 rw[e];clear e σ'
 refine Q9 (fun ε σ'=>(ε 0=.ref jm 0 0∧ε 3=.sl 0 [] .nil)∧σ'=σ) ?_ ?_
 ·intro N X R hN
  push_cast (maxSteps:=999999) -implicitDefEqProofs (disch:=omega)[hρ]
  exact hN _ _ ⟨by push_cast (maxSteps:=999999) -implicitDefEqProofs (disch:=omega)[hρ],rfl⟩
 clear hρ ε
 rintro ε σ' ⟨hρ,e⟩
 rw[e];clear e σ'
 have hmt:∀τ:Kx.St,(σ++τ)[jm]?=_:=fun τ=>Qj ht
 refine Q9 (fun ε σ'=>∃w,ε 3=.sl m.l.length (m.l.flatMap aVw) (.id σ.length w 4)∧∃τ,σ'=σ++τ) ?_ ?_
 ·intro N X R hN
  push_cast (maxSteps:=999999) -implicitDefEqProofs (disch:=omega)[hρ,ht]
  refine J5 (GU.tok 3 4 (by push_cast (maxSteps:=999999) -implicitDefEqProofs (disch:=omega)[hρ])) (α:=Nat) (I:=fun k ε σ'=>(ε 11=.sl m.l.length RL t∧ε 12=.v (.int .i64 m.l.length)∧ε 13=.v (.int .i64 k))∧k≤m.l.length∧∃w,ε 3=.sl k ((m.l.take k).flatMap aVw) (.id σ.length w 4)∧σ'=σ++[.tail w])
   (μ:=fun k=>m.l.length - k) (Q:=fun ε σ'=>∃w,ε 3=.sl m.l.length (m.l.flatMap aVw) (.id σ.length w 4)∧∃τ,σ'=σ++τ) (x:=0) ?_ ?_ hN
  ·push_cast (maxSteps:=999999) -implicitDefEqProofs (disch:=omega)
   exact ⟨by omega,0,rfl,rfl⟩
  ·clear hN N X R hρ ε
   rintro k ε σ' N E X R ⟨hρ,hk,w,h3,rfl⟩ hN hE
   simp only[QZ]
   by_cases hlt:k < m.l.length
   ·obtain ⟨v,hv⟩:=Q09 hlt
    have hr:=hRl k hlt
    have hcl:(AV.agg (aVw v)).cells=aVw v:=rfl
    push_cast (maxSteps:=999999) -implicitDefEqProofs (disch:=omega)[hρ,hr]
    refine Q0 (Gb (h.mm.app _) hv) ?_
    rintro a σ' ⟨rfl,hs⟩
    rw[hs];clear hs σ'
    push_cast (maxSteps:=999999) -implicitDefEqProofs (disch:=omega)
    refine Qt (sz:=4) (by intro a ha;simp at ha;subst ha;rfl) (by simp) ?_
    push_cast (maxSteps:=999999) -implicitDefEqProofs (disch:=omega)[hcl,h3]
    refine Y07 (m:=1) rfl rfl (by rw[List.append_nil];rfl) rfl (by rw[Q28 Gf,List.length_take];omega) (by omega) (by omega) (Qc _ _) ?_
    push_cast (maxSteps:=999999) -implicitDefEqProofs (disch:=omega)[hρ,Qq]
    refine hN (k+1) _ _ ⟨by push_cast (maxSteps:=999999) -implicitDefEqProofs (disch:=omega)[hρ],by omega,w+1,?_,rfl⟩ (by omega)
    have e:(m.l.take (k+1)).flatMap aVw=(m.l.take k).flatMap aVw++aVw v:=by rw[Qs hv,List.flatMap_append];simp
    rw[e]
    push_cast (maxSteps:=999999) -implicitDefEqProofs (disch:=omega)[List.append_nil]
   ·push_cast (maxSteps:=999999) -implicitDefEqProofs (disch:=omega)[hρ]
    obtain rfl:k=m.l.length:=by omega
    rw[List.take_length] at h3
    exact hE _ _ ⟨w,by push_cast (maxSteps:=999999) -implicitDefEqProofs (disch:=omega)[h3],_,rfl⟩
 clear hρ ε
 rintro ε σ' ⟨w,hρ,τ,rfl⟩
 push_cast (maxSteps:=999999) -implicitDefEqProofs (disch:=omega)[hρ]
 refine ⟨[],?_,τ,rfl⟩
 rw[aVws_res];rfl
def Pm.one (q:Pm):Pm:={ q with W:=1 }
theorem pr_one (q:Pm):(aPr q).set 0 (.v (.int .i64 1))=aPr q.one:=rfl
set_option maxHeartbeats 4000000 in
theorem Gg (M:Nat) (q:Pm) (hf:okF q.fs) (inp:List Int) (hi:inp.length≤1000000) (n:Nat) (hn:n≤1000000) (he:coreE M q.fs inp q.one=0) (σ:Kx.St):
  FnG Tryz.prog 40 [.agg (Go.Proofs.YtelibaobkcokdaaGreat.aPr M q.fs),aInts inp,.agg (aPr q),.v (.int .i64 n)] σ fun a σ'=>∃jm,a=.ref jm 0 0∧∃pl k,MaR σ jm q.one pl σ' ((mkM q.one M inp).go q.one n) k∧k≤n:=by
 refine J81 X19 mixed rfl ?_
 simp only[Q88]
 have hac:(AV.agg (Go.Proofs.YtelibaobkcokdaaGreat.aPr M q.fs)).cells=Go.Proofs.YtelibaobkcokdaaGreat.aPr M q.fs:=rfl
 have haq:(AV.agg (aPr q)).cells=aPr q:=rfl
 have c2:cellsA (some 2) (Go.Proofs.YtelibaobkcokdaaGreat.aPr M q.fs)=some (.agg (Go.Proofs.YtelibaobkcokdaaGreat.aPr M q.fs)):=rfl
 have c7:cellsA (some 7) (aPr q.one)=some (.agg (aPr q.one)):=rfl
 have x7:(AV.agg (aPr q.one)).exact=true:=rfl
 have hII:aInts inp=.sl inp.length (inp.map aInt) .none:=rfl
 refine Q9 (fun ε σ'=>(ε 1=aInts inp∧ε 3=.v (.int .i64 n)∧ε 4=.ep (Go.Proofs.YtelibaobkcokdaaGreat.aPr M q.fs)∧ε 6=.ref σ.length 0 0)∧σ'=σ++[.obj 0 (aPr q)]) ?_ ?_
 ·intro N X R hN
  push_cast (maxSteps:=999999) -implicitDefEqProofs (disch:=omega)
  refine Q3 ?_
  push_cast (maxSteps:=999999) -implicitDefEqProofs (disch:=omega)[hac]
  refine Qn ?_
  push_cast (maxSteps:=999999) -implicitDefEqProofs (disch:=omega)[haq]
  exact hN _ _ ⟨by push_cast (maxSteps:=999999) -implicitDefEqProofs (disch:=omega),rfl⟩
 rintro ε σ' ⟨hρ,rfl⟩
 refine Q9 (fun ε σ'=>(ε 1=aInts inp∧ε 3=.v (.int .i64 n)∧ε 4=.ep (Go.Proofs.YtelibaobkcokdaaGreat.aPr M q.fs)∧ε 6=.ref σ.length 0 0)∧σ'=σ++[.obj 0 (aPr q.one)]) ?_ ?_
 ·intro N X R hN
  push_cast (maxSteps:=999999) -implicitDefEqProofs (disch:=omega)[hρ]
  refine Q6 rfl rfl (Qc _ _) (show 0 < 7 from by omega) ?_
  rw[Qq,pr_one]
  push_cast (maxSteps:=999999) -implicitDefEqProofs (disch:=omega)[hρ]
  exact hN _ _ ⟨by push_cast (maxSteps:=999999) -implicitDefEqProofs (disch:=omega)[hρ],rfl⟩
 clear hρ ε
 rintro ε σ' ⟨hρ,rfl⟩
 have hb:(σ++[Res.obj 0 (aPr q.one)])[σ.length]?=some (.obj 0 (aPr q.one)):=Qc _ _
 have hsrc:∀σ:Kx.St,srcA σ 1 (aInts inp)=some (inp.length,inp.map aInt):=fun _=>rfl
 have h1:(inp.map aInt).all AV.one=true:=by rw[List.all_map];exact List.all_eq_true.2 fun x _=>rfl
 have hln:σ.length < (σ++[Res.obj 0 (aPr q.one)]).length:=by simp
 have hNew:=Q38 M q.one hf inp he (σ++[Res.obj 0 (aPr q.one)])
 have hOwn:=J16 M q.fs hf
 have hkeep:∀{jm pl σ' m k},MaR (σ++[Res.obj 0 (aPr q.one)]) jm q.one pl σ' m k→MaR σ jm q.one pl σ' m k:=fun h=>⟨h.ma,h.ok,fun j hj=>(h.keep j (by simp;omega)).trans (List.getElem?_append_left hj),fun ro=>by have:=h.new ro;omega,by have:=h.jn;omega,by have:=h.ln;omega⟩
 generalize σ++[Res.obj 0 (aPr q.one)]=S at hb hln hNew hkeep
 refine Q9 (fun ε σ'=>∃jm,(ε 3=.v (.int .i64 n)∧ε 9=.ref jm 0 0∧ε 10=.v (.int .i64 0))∧∃pl,MaR σ jm q.one pl σ' (mkM q.one M inp) 0) ?_ ?_
 ·intro N X R hN
  push_cast (maxSteps:=999999) -implicitDefEqProofs (disch:=omega)[hρ,c2,hb,c7,x7]
  refine both2 ?_ ?_
  ·refine Q1 hOwn ?_
   rintro a rfl
   push_cast (maxSteps:=999999) -implicitDefEqProofs (disch:=omega)[hρ,c2,hb,c7,x7]
   refine Qt (sz:=1) (by simp) (by simp) ?_
   push_cast (maxSteps:=999999) -implicitDefEqProofs (disch:=omega)[hρ,c2,hb,c7,x7]
   refine Qp (n:=0) (cs:=[]) (m:=inp.length) rfl (hsrc _) (by simp) h1 rfl (by omega) (by omega) ?_
   push_cast (maxSteps:=999999) -implicitDefEqProofs (disch:=omega)[hρ,c2,hb,c7,x7]
   refine Q0 hNew ?_
   rintro a σ' ⟨jm,rfl,pl,h⟩
   push_cast (maxSteps:=999999) -implicitDefEqProofs (disch:=omega)[hρ,aInt]
   exact hN _ _ ⟨jm,by push_cast (maxSteps:=999999) -implicitDefEqProofs (disch:=omega)[hρ],pl,hkeep h⟩
  ·refine Qt (sz:=1) (by simp) (by simp) ?_
   push_cast (maxSteps:=999999) -implicitDefEqProofs (disch:=omega)[hρ,c2,hb,c7,x7]
   refine Q1 hOwn ?_
   rintro a rfl
   push_cast (maxSteps:=999999) -implicitDefEqProofs (disch:=omega)[hρ,c2,hb,c7,x7]
   refine Qp (n:=0) (cs:=[]) (m:=inp.length) rfl (hsrc _) (by simp) h1 rfl (by omega) (by omega) ?_
   push_cast (maxSteps:=999999) -implicitDefEqProofs (disch:=omega)[hρ,c2,hb,c7,x7]
   refine Q0 hNew ?_
   rintro a σ' ⟨jm,rfl,pl,h⟩
   push_cast (maxSteps:=999999) -implicitDefEqProofs (disch:=omega)[hρ,aInt]
   exact hN _ _ ⟨jm,by push_cast (maxSteps:=999999) -implicitDefEqProofs (disch:=omega)[hρ],pl,hkeep h⟩
 clear hρ ε hkeep hb hNew hln S
 rintro ε σ' ⟨jm,hρ,pl,h⟩
 refine Q9 (fun ε σ2=>(ε 3=.v (.int .i64 n)∧ε 9=.ref jm 0 0)∧σ2=σ') ?_ ?_
 ·intro N X R hN
  push_cast (maxSteps:=999999) -implicitDefEqProofs (disch:=omega)[hρ]
  exact hN _ _ ⟨by push_cast (maxSteps:=999999) -implicitDefEqProofs (disch:=omega)[hρ],rfl⟩
 clear hρ ε
 rintro ε σ2 ⟨hρ,rfl⟩
 refine Qm (fun ε σ'=>ε 9=.ref jm 0 0∧∃pl k,MaR σ jm q.one pl σ' ((mkM q.one M inp).go q.one n) k∧k≤n) ?_ ?_
 ·intro N hN
  push_cast (maxSteps:=999999) -implicitDefEqProofs (disch:=omega)[hρ]
  refine Xd (α:=Nat) (I:=fun k ε σ'=>(ε 3=.v (.int .i64 n)∧ε 9=.ref jm 0 0∧ε 11=.v (.int .i64 k))∧k≤n∧∃pl,MaR σ jm q.one pl σ' ((mkM q.one M inp).go q.one k) k)
   (μ:=fun k=>n - k) (Q:=fun ε σ'=>ε 9=.ref jm 0 0∧∃pl k,MaR σ jm q.one pl σ' ((mkM q.one M inp).go q.one n) k∧k≤n) (x:=0) ?_ ?_ hN
  ·push_cast (maxSteps:=999999) -implicitDefEqProofs (disch:=omega)[hρ]
   exact ⟨by omega,pl,h⟩
  ·clear hN N hρ ε h pl
   rintro k ε σ' N E ⟨hρ,hk,pl,h⟩ hN hE
   simp only[Q26]
   by_cases hlt:k < n
   ·have hb:fillA [AV.v (.int .i64 0),AV.v (.int .i64 0)] [] []=some [AV.v (.int .i64 0),AV.v (.int .i64 0)]:=rfl
    push_cast (maxSteps:=999999) -implicitDefEqProofs (disch:=omega)[hρ,hb]
    refine Q0 (J35 h (by omega) 0 0) ?_
    rintro a σ2 ⟨rfl,pl2,h2⟩
    rw[←go_succ] at h2 ⊢
    cases c:((mkM q.one M inp).go q.one (k+1)).ended with
    | true=>
     have e:=go_end c (n - (k+1))
     rw[show k+1+(n - (k+1))=n by omega] at e
     rw[←e] at h2
     push_cast (maxSteps:=999999) -implicitDefEqProofs (disch:=omega)[hρ,aBool]
     first|exact ⟨jm,rfl,pl2,k+1,h2,by omega⟩|exact ⟨jm,pl2,k+1,h2,by omega⟩
    | false=>
     push_cast (maxSteps:=999999) -implicitDefEqProofs (disch:=omega)[hρ,aBool]
     exact hN (k+1) _ _ ⟨by push_cast (maxSteps:=999999) -implicitDefEqProofs (disch:=omega)[hρ],by omega,pl2,h2⟩ (by omega)
   ·push_cast (maxSteps:=999999) -implicitDefEqProofs (disch:=omega)[hρ]
    obtain rfl:k=n:=by omega
    exact hE _ _ ⟨by push_cast (maxSteps:=999999) -implicitDefEqProofs (disch:=omega)[hρ],pl,k,h,by omega⟩
 clear hρ ε h pl
 rintro ε σ3 ⟨hρ,pl,k,h,hk⟩
 push_cast (maxSteps:=999999) -implicitDefEqProofs (disch:=omega)[hρ]
 first|exact ⟨jm,rfl,pl,k,h,hk⟩|exact ⟨pl,k,h,hk⟩
theorem wpa_callwG {P:Program} {σ:Kx.St} {K:AV→Kx.St→Prop} {f:FuncId} {bs bs':List AV} {R:AV→Kx.St→Prop} (is:List Nat) (fs:List Bool) (H:FnG P f bs' (Go.Kx.freeze is σ) R) (he:weak (Go.Kx.freeze is σ) fs bs=bs') (hk:∀a σ',R a σ'→Go.Kx.act (K a σ')):Go.Kx.act (EF.awp P (.call f) bs σ K):=
 wpa_frz is fs (by rw[he];exact Q0 H hk)
def q30:Pm:={ q3 with W:=0 }
theorem r3_go:(mkM q3 0 []).go q3 400=r3:=rfl
theorem r3_core:coreE 0 three [] q3=0:=by decide +kernel
theorem r3_most:1≤mostF r3.c.log:=by decide +kernel
structure Wks (m:Mc):Prop where
 st:m.c.status=1
 ou:m.c.out=[1,2,3]
 us:usedN m.c.held=1
 pk:3≤m.c.peak
 en:m.ended=true
 mo:1≤mostF m.c.log
theorem aRs_app (st:Int) (c:Cs) (pk:Int):(aRs st c pk).all AV.one=true:=by
 have h1:(aInts c.out).one=true:=rfl
 have h2:(aInts c.data).one=true:=rfl
 unfold aRs aRg
 generalize aInts c.out=X at h1
 generalize aInts c.data=Y at h2
 have k1:∀x:Int,(AV.v (.int .i64 x)).one=true:=fun _=>rfl
 simp only[List.all_cons,List.all_nil,h1,h2,k1];rfl
set_option maxHeartbeats 8000000 in
theorem Gi:FnP Tryz.prog 17 [] fun a=>a=aBool true:=by
 refine Qg X64 mixed rfl rfl ?_
 simp only[Zr]
 refine Q9 (fun ε σ=>σ=[]) ?_ ?_
 ·intro N X R hN
  push_cast (maxSteps:=999999) -implicitDefEqProofs (disch:=omega)
  exact hN _ _ rfl
 rintro ε σ rfl
 refine Q9 (fun ε σ=>∃jm,ε 1=.ref jm 0 0∧∃pl m,MaM jm q3 pl σ m∧Wks m∧m.c.log.length≤1000) ?_ ?_
 ·intro N X R hN
  push_cast (maxSteps:=999999) -implicitDefEqProofs (disch:=omega)
  refine Q1 Gd ?_
  rintro a rfl
  have hb:fillA [AV.v (.int .i64 0),AV.v (.int .i64 0),AV.v (.int .i64 0),AV.v (.int .i64 0),AV.v (.int .i64 0),AV.v (.bool false),AV.v (.bool false)] [(1,1),(2,1),(3,1),(4,1)] [AV.v (.int .i64 2),AV.v (.int .i64 8),AV.v (.int .i64 8),AV.v (.int .i64 9)]=some (aPr q30):=rfl
  push_cast (maxSteps:=999999) -implicitDefEqProofs (disch:=omega)[hb]
  refine wpa_callwG [] [false,true] (Gg 0 q30 three_ok [] (by simp) 400 (by omega) r3_core []) rfl ?_
  rintro a σ' ⟨jm,rfl,pl,k,h,hk⟩
  have e:(mkM q30.one 0 []).go q30.one 400=r3:=r3_go
  rw[e] at h
  push_cast (maxSteps:=999999) -implicitDefEqProofs (disch:=omega)
  obtain ⟨a1,a2,a3,a4,a5⟩:=r3_ok
  have hlg:=h.ok.lg
  exact hN _ _ ⟨jm,by push_cast (maxSteps:=999999) -implicitDefEqProofs (disch:=omega),pl,r3,h.ma,⟨a1,a2,a3,a4,a5,r3_most⟩,by omega⟩
 rintro ε σ ⟨jm,hρ,pl,m,h,hm,hlg⟩
 have hln:=h.ln
 have hst:m.state=1:=by unfold Mc.state;rw[if_neg (by rw[hm.st];omega)];exact hm.st
 obtain ⟨h1,h2,h3,h4,h5,h6⟩:=hm
 have hl1:m.l.length=1:=by have:q3.W=1:=rfl;omega
 have hne:m.c.log≠[]:=by intro e;rw[e] at h6;exact absurd h6 (by decide)
 have hev:aVtsN m.c.log=aVts m.c.log:=if_neg hne
 have hou:aInts m.c.out=aInts [1,2,3]:=by rw[h2]
 refine Qm (fun ε σ'=>ε 1=.ref jm 0 0∧σ'=σ) ?_ ?_
 ·intro N hN
  push_cast (maxSteps:=999999) -implicitDefEqProofs (disch:=omega)[hρ]
  exact hN _ _ ⟨by push_cast (maxSteps:=999999) -implicitDefEqProofs (disch:=omega)[hρ],rfl⟩
 clear hρ ε
 rintro ε σ' ⟨hρ,e⟩
 rw[e];clear e σ'
 have hz:setAtA [AV.v (.int .i64 0),AV.v (.int .i64 0),AV.sl 0 [] .nil,AV.sl 0 [] .nil,AV.v (.int .i64 0),AV.v (.int .i64 0),AV.v (.int .i64 0),AV.v (.int .i64 0),AV.v (.int .i64 0),AV.v (.int .i64 0),AV.v (.int .i64 0)] 0 (aRs 1 m.c m.c.peak)=aRs 1 m.c m.c.peak:=Q07 rfl
 have hac:(AV.agg (aRs 1 m.c m.c.peak)).cells=aRs 1 m.c m.c.peak:=rfl
 refine Q9 (fun ε σ'=>(ε 1=.ref jm 0 0∧ε 2=.ref σ.length 0 0)∧σ'=σ++[.obj 0 (aRs 1 m.c m.c.peak)]) ?_ ?_
 ·intro N X R hN
  push_cast (maxSteps:=999999) -implicitDefEqProofs (disch:=omega)[hρ]
  refine Q0 (Q93 h) ?_
  rintro a σ' ⟨rfl,hs⟩
  rw[hs,hst];clear hs σ'
  push_cast (maxSteps:=999999) -implicitDefEqProofs (disch:=omega)[hρ]
  refine Qb ?_
  push_cast (maxSteps:=999999) -implicitDefEqProofs (disch:=omega)[hac]
  refine Q8 (cs:=[AV.v (.int .i64 0),AV.v (.int .i64 0),AV.sl 0 [] .nil,AV.sl 0 [] .nil,AV.v (.int .i64 0),AV.v (.int .i64 0),AV.v (.int .i64 0),AV.v (.int .i64 0),AV.v (.int .i64 0),AV.v (.int .i64 0),AV.v (.int .i64 0)]) rfl (aRs_app _ _ _) (Qc _ _) (Nat.le_refl 11) ?_
  rw[hz,Qq]
  push_cast (maxSteps:=999999) -implicitDefEqProofs (disch:=omega)[hρ]
  exact hN _ _ ⟨by push_cast (maxSteps:=999999) -implicitDefEqProofs (disch:=omega)[hρ],rfl⟩
 clear hρ ε
 rintro ε σ' ⟨hρ,rfl⟩
 have hA:=h.app [.obj 0 (aRs 1 m.c m.c.peak)]
 have hb:(σ++[Res.obj 0 (aRs 1 m.c m.c.peak)])[σ.length]?=some (.obj 0 (aRs 1 m.c m.c.peak)):=Qc _ _
 have g0:(aRs 1 m.c m.c.peak)[0]?=some (.v (.int .i64 1)):=rfl
 have g2:(aRs 1 m.c m.c.peak)[2]?=some (aInts [1,2,3]):=by rw[←hou];rfl
 have g10:(aRs 1 m.c m.c.peak)[4+6]?=some (.v (.int .i64 m.c.peak)):=rfl
 have hl0:(m.l.flatMap aVw).length=4:=by rw[Q28 Gf,hl1]
 generalize aRs 1 m.c m.c.peak=RS at hA hb g0 g2 g10
 generalize σ++[Res.obj 0 RS]=S at hA hb
 push_cast (maxSteps:=999999) -implicitDefEqProofs (disch:=omega)[hρ]
 refine Q0 (QM hA) ?_
 rintro a σ' ⟨rfl,hs⟩
 rw[hs,h5];clear hs σ'
 push_cast (maxSteps:=999999) -implicitDefEqProofs (disch:=omega)[hρ,aBool,hb,g0,g2,g10]
 refine Qt (sz:=1) (by intro a ha;simp at ha;rcases ha with rfl|rfl|rfl<;>rfl) (by simp) ?_
 push_cast (maxSteps:=999999) -implicitDefEqProofs (disch:=omega)
 refine Jm [] [false,true] (X20 [1,2,3] [1,2,3] (by simp) (by simp)) rfl ?_
 rintro a rfl
 rw[fzn,beq_self_eq_true]
 push_cast (maxSteps:=999999) -implicitDefEqProofs (disch:=omega)[hρ,aBool]
 refine Q0 (Y97 hA) ?_
 rintro a σ' ⟨rfl,hs⟩
 rw[hs,h3];clear hs σ'
 push_cast (maxSteps:=999999) -implicitDefEqProofs (disch:=omega)[hρ,aInt]
 refine Q0 (Q64 hA) ?_
 rintro a σ' ⟨rfl,hs⟩
 rw[hs];clear hs σ'
 push_cast (maxSteps:=999999) -implicitDefEqProofs (disch:=omega)[hρ,aVws,hl1]
 refine Q0 (Q92 hA (by omega)) ?_
 rintro a σ' ⟨rfl,hs⟩
 rw[hs,hev];clear hs σ'
 push_cast (maxSteps:=999999) -implicitDefEqProofs (disch:=omega)
 refine Q1 (J34 m.c.log (by omega)) ?_
 rintro a rfl
 push_cast (maxSteps:=999999) -implicitDefEqProofs (disch:=omega)[hρ,aInt,h6,hb,g10,h4]
 first|exact ⟨[],rfl,rfl⟩|exact ⟨[],rfl⟩
end Go.Proofs.YtelibaobkcokdaaGreat.Mx
namespace Go.Proofs.YtelibaobkcokdaaGreat.Mx
set_option linter.unusedVariables false
set_option linter.unusedSimpArgs false
open Go Go.Kx Go.Proofs Go.Proofs.YtelibaobkcokdaaGreat
set_option maxRecDepth 8000
end Go.Proofs.YtelibaobkcokdaaGreat.Mx
