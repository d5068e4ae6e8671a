/- The machine: how many iterations are active by events: as the chapter says. The machine: how many iterations are active by events: the walks. The machine: runs of one worker; works. The machine: works. MachineCounts: the walk; shapes of what comes in. -/
import Derived.Test.YtelibaobkcokdaaGreatA2M4
import Derived.Test.YtelibaobkcokdaaGreatA2Prb
namespace Go.Proofs.YtelibaobkcokdaaGreat.Mx
set_option linter.unusedVariables false
set_option linter.unusedSimpArgs false
open Go Go.Kx Go.Proofs Go.Proofs.YtelibaobkcokdaaGreat
set_option maxRecDepth 8000
def moreI (k:Int):Int:=if k=1 then 1 else if k=4 then -1 else 0
def actv (l:List Vt) (p:Int):Int:=l.foldl (fun n e=>if e.loop=p then n+moreI e.kind else n) 0
theorem actv_snoc (l:List Vt) (e:Vt) (p:Int):actv (l++[e]) p=if e.loop=p then actv l p+moreI e.kind else actv l p:=by
 unfold actv;rw[List.foldl_append];rfl
def lpAt (l:List Vt) (i:Nat):Int:=match l[i]? with|some e=>e.loop|none=>0
def mostAt (l:List Vt):Nat→Int
 | 0=>0
 | i+1=>max (mostAt l i) (actv (l.take (i+1)) (lpAt l i))
def mostF (l:List Vt):Int:=mostAt l l.length
theorem moreI_b (k:Int):-1≤moreI k∧moreI k≤1:=by
 unfold moreI
 repeat' split
 all_goals omega
theorem actv_b (l:List Vt) (p:Int):-(l.length:Int)≤actv l p∧actv l p≤l.length:=by
 induction l using snoc_ind with
 | h0=>simp[actv]
 | hs l e ih=>
  rw[actv_snoc]
  have:=moreI_b e.kind
  simp only[List.length_append,List.length_singleton]
  split<;>omega
def UB (l:List Vt) (i k:Nat) (x:Int):Prop:=0≤x∧x≤l.length∧∀y,0≤y→(x≤y↔(∀i',i' < i→∀k',k' < i'→actv (l.take i') (lpAt l k')≤y)∧∀k',k' < k→actv (l.take i) (lpAt l k')≤y)
def active (l:List Vt) (p:Int):Int:=max (actv l p) 0
theorem UB.zero (l:List Vt):UB l 0 0 0:=⟨by omega,by omega,fun y hy=>⟨fun _=>⟨fun i h=>by omega,fun k h=>by omega⟩,fun _=>hy⟩⟩
theorem UB.next {l:List Vt} {i k:Nat} {x:Int} (h:UB l i k x) (hi:i≤l.length):UB l i (k+1) (max x (active (l.take i) (lpAt l k))):=by
 obtain ⟨h0,h1,h2⟩:=h
 have hb:=actv_b (l.take i) (lpAt l k)
 have hl:(l.take i).length≤l.length:=by rw[List.length_take];omega
 refine ⟨by omega,by unfold active;omega,fun y hy=>?_⟩
 have e:max x (active (l.take i) (lpAt l k))≤y↔x≤y∧actv (l.take i) (lpAt l k)≤y:=by unfold active;omega
 rw[e,h2 y hy]
 constructor
 ·rintro ⟨⟨a,b⟩,c⟩
  refine ⟨a,fun k' hk=>?_⟩
  by_cases hc:k'=k
  ·subst hc;exact c
  ·exact b k' (by omega)
 ·rintro ⟨a,b⟩
  exact ⟨⟨a,fun k' hk=>b k' (by omega)⟩,b k (by omega)⟩
end Go.Proofs.YtelibaobkcokdaaGreat.Mx
namespace Go.Proofs.YtelibaobkcokdaaGreat.Mx
set_option linter.unusedVariables false
set_option linter.unusedSimpArgs false
open Go Go.Kx Go.Proofs Go.Proofs.YtelibaobkcokdaaGreat
set_option maxRecDepth 8000
end Go.Proofs.YtelibaobkcokdaaGreat.Mx
namespace Go.Proofs.YtelibaobkcokdaaGreat.Mx
set_option linter.unusedVariables false
set_option linter.unusedSimpArgs false
open Go Go.Kx Go.Proofs Go.Proofs.YtelibaobkcokdaaGreat
set_option maxRecDepth 8000
theorem law05_Ints_a (l k:List Int) (hl:l.length≤1000000) (hk:k.length≤1000000):FnP Tryz.prog 41 [aInts l,aInts k] fun a=>a=aBool (l==k):=by
 refine Qf X20 mixed rfl (by simp[AV.pureL,Y97]) ?_
 simp only[Ze,aInts,aSl]
 by_cases hle:l.length=k.length
 ·push_cast (maxSteps:=999999) -implicitDefEqProofs (disch:=omega)[hle]
  refine wpa_bl (α:=Nat) (I:=fun t ε σ=>(ε 0=.sl l.length (l.map aInt) .none∧ε 1=.sl k.length (k.map aInt) .none∧ε 5=.v (.int .i64 t))∧t≤l.length∧l.take t=k.take t)
   (μ:=fun t=>l.length - t) (Q:=fun _ _=>l=k) (x:=0) ?_ ?_ ?_
  ·push_cast (maxSteps:=999999) -implicitDefEqProofs (disch:=omega)[hle]
   omega
  ·rintro t ε σ N E ⟨hρ,ht,heq⟩ hN hE
   simp only[Q33]
   by_cases hlt:t < l.length
   ·obtain ⟨x,hx⟩:=Z63 hlt
    obtain ⟨y,hy⟩:=Z63 (l:=k) (k:=t) (by omega)
    by_cases he:x=y
    ·subst he
     push_cast (maxSteps:=999999) -implicitDefEqProofs (disch:=omega)[hρ,hx,hy,aInt]
     refine hN (t+1) _ _ ?_ (by omega)
     push_cast (maxSteps:=999999) -implicitDefEqProofs (disch:=omega)[hρ]
     exact ⟨by omega,by rw[Q06 hx,Q06 hy,heq]⟩
    ·push_cast (maxSteps:=999999) -implicitDefEqProofs (disch:=omega)[hρ,hx,hy,aInt,he]
     refine fin_v ?_
     have:l≠k:=by
      intro e;subst e;rw[hx] at hy;cases hy;exact he rfl
     simp[aBool,this]
   ·push_cast (maxSteps:=999999) -implicitDefEqProofs (disch:=omega)[hρ]
    refine hE _ _ ?_
    rwa [List.take_of_length_le (by omega),List.take_of_length_le (by omega)] at heq
  ·intro ε σ h
   push_cast (maxSteps:=999999) -implicitDefEqProofs (disch:=omega)
   exact fin_v (by simp[aBool,h])
 ·push_cast (maxSteps:=999999) -implicitDefEqProofs (disch:=omega)[hle]
  refine fin_v ?_
  have:l≠k:=by intro e;subst e;exact hle rfl
  simp[aBool,this]
structure MaR (σ0:Kx.St) (jm:Nat) (q:Pm) (pl:Pl) (σ:Kx.St) (m:Mc) (n:Nat):Prop where
 ma:MaM jm q pl σ m
 ok:McOk m n
 keep:∀j,j < σ0.length→σ[j]?=σ0[j]?
 new:∀ro,σ0.length≤pl.p ro
 jn:σ0.length≤jm
 ln:σ0.length≤σ.length
theorem MaR.next {σ0:Kx.St} {jm:Nat} {q:Pm} {pl pl':Pl} {σ σ':Kx.St} {m:Mc} {n:Nat} (h:MaR σ0 jm q pl σ m n) {a b:Int} (h':MaM jm q pl' σ' (m.step q a b)) (X:Ext pl pl' σ σ'):MaR σ0 jm q pl' σ' (m.step q a b) (n+1):=by
 refine ⟨h',h.ok.step q a b,fun j hj=>?_,fun ro=>?_,h.jn,by have:=X.len;have:=h.ln;omega⟩
 ·rw[X.keep j (by have:=h.ln;omega) fun ro=>by have:=h.new ro;omega]
  exact h.keep j hj
 ·rcases X.new ro with e|e
  ·rw[e];exact h.new ro
  ·have:=h.ln;omega
def Mc.go (q:Pm) (m:Mc) (n:Nat):Mc:=m.run q (List.replicate n (0,0))
def Pm.one (q:Pm):Pm:={ q with W:=1 }
theorem wpa_callwG {P:Program} {σ:Kx.St} {K:AV→Kx.St→Prop} {f:FuncId} {bs bs':List AV} {R:AV→Kx.St→Prop} (is:List Nat) (fs:List Bool) (H:FnG P f bs' (Go.Kx.freeze is σ) R) (he:weak (Go.Kx.freeze is σ) fs bs=bs') (hk:∀a σ',R a σ'→Go.Kx.act (K a σ')):Go.Kx.act (EF.awp P (.call f) bs σ K):=
 wpa_frz is fs (by rw[he];exact Q0 H hk)
structure Wks (m:Mc):Prop where
 st:m.c.status=1
 ou:m.c.out=[1,2,3]
 us:usedN m.c.held=1
 pk:3≤m.c.peak
 en:m.ended=true
 mo:1≤mostF m.c.log
theorem MaM.app {jm:Nat} {q:Pm} {pl:Pl} {σ:Kx.St} {m:Mc} (h:MaM jm q pl σ m) (τ:Kx.St):MaM jm q pl (σ++τ) m:=h.of (h.mm.app _) (Ext.app ..) rfl
end Go.Proofs.YtelibaobkcokdaaGreat.Mx
namespace Go.Proofs.YtelibaobkcokdaaGreat.Mx
set_option linter.unusedVariables false
set_option linter.unusedSimpArgs false
open Go Go.Kx Go.Proofs Go.Proofs.YtelibaobkcokdaaGreat
set_option maxRecDepth 8000
end Go.Proofs.YtelibaobkcokdaaGreat.Mx
