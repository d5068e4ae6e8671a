/- Race: the document's Find: the walk. -/
import Derived.Test.YtncdnegdlkmicaaGreatQRza
import Derived.Test.YtncdnegdlkmicaaGreatQYah
import Derived.Test.YtncdnegdlkmicaaGreatQCRf
namespace Go.Proofs.YtncdnegdlkmicaaGreat.Rc
set_option linter.unusedVariables false
set_option linter.unusedSimpArgs false
open Go Go.Kx Go.Proofs
open Go.Proofs.YtncdnegdlkmicaaGreat.Rx hiding Ql Q03 Qe QK mixed
open Go.Proofs.YtncdnegdlkmicaaGreat.St (Ac aAc Qt Z2 Q85 Z44 Nd aNd Zw X8)
def RefR (xss:List (List Int)) (l:List Ac) (r:Int×Int×Int):Prop:=
 (chk xss≠0∧r=(-1,-1,chk xss))∨(chk xss=0∧badS xss l∧r=(-1,-1,3)) ∨
 (chk xss=0∧¬badS xss l∧∃q,FC (clash xss l) l.length q∧r=match q with|none=>(-1,-1,0)|some p=>((p.1:Int),(p.2:Int),0))
theorem clash_ref {xss:List (List Int)} (hok:okB 0 xss=true) {l:List Ac} {i k:Nat} {a b:Ac} (ha:l[i]?=some a) (hb:l[k]?=some b) (a0:0≤a.st) (a1:a.st < xss.length) (b0:0≤b.st) (b1:b.st < xss.length):
  clash xss l i k=(decide (a.wd=b.wd)&&(a.wr||b.wr)&&(decide (a.st≠b.st)&&!((aheadE xss b.st).getD a.st.toNat false)&&!((aheadE xss a.st).getD b.st.toNat false))):=by
 obtain ⟨v1,v2,v3⟩:=YH ha
 obtain ⟨w1,w2,w3⟩:=YH hb
 unfold clash
 rw[v1,v2,v3,w1,w2,w3]
 have i1:inR (some (mkM xss)) a.st=true:=by simp[inR,lenR,Q06];omega
 have i2:inR (some (mkM xss)) b.st=true:=by simp[inR,lenR,Q06];omega
 have e1:=befR_mark hok a.st.toNat (by omega) b.st
 have e2:=befR_mark hok b.st.toNat (by omega) a.st
 rw[show ((a.st.toNat:Nat):Int)=a.st by omega] at e1
 rw[show ((b.st.toNat:Nat):Int)=b.st by omega] at e2
 unfold aparR
 rw[i1,i2,e1,e2]
 simp
def aRf (r:Int×Int×Int):AV:=.tup [.v (.int .i64 r.1),.v (.int .i64 r.2.1),.v (.int .i64 r.2.2)]
set_option maxHeartbeats 16000000 in
theorem ref32_Find_a (xss:List (List Int)) (l:List Ac) (hs:xss.length≤1000000) (hs2:∀x∈xss,x.length≤1000000) (hl:l.length≤1000000):
  FnP Tryz.prog 17 [aInts2 xss,aAcs l] fun a=>∃r,a=aRf r∧RefR xss l r:=by
 refine Qh Xc mixed rfl (by simp[AV.pureL,QL,aAcs_pure]) ?_
 simp only[Z9]
 have hX:aInts2 xss=.sl xss.length (xss.map aInts) .none:=rfl
 have hA:aAcs l=.sl l.length (l.flatMap aAc) .none:=rfl
 have fin:∀(σ:Kx.St) (r:Int×Int×Int),RefR xss l r→∃is,(AV.res (Go.Kx.freeze is σ) (aRf r)).pure=true∧∃r',AV.res (Go.Kx.freeze is σ) (aRf r)=aRf r'∧RefR xss l r':=fun σ r h=>⟨[],rfl,r,rfl,h⟩
 have hCk:=YG xss hs hs2
 refine Q1 (fun ε σ=>ε 0=aInts2 xss∧ε 1=aAcs l) ?_ ?_
 ·intro N X R hN
  push_cast (maxSteps:=999999) -implicitDefEqProofs (disch:=omega)
  exact hN _ _ (by push_cast (maxSteps:=999999) -implicitDefEqProofs (disch:=omega))
 rintro ε σ hρ
 refine Q1 (fun ε σ=>ε 0=aInts2 xss∧ε 1=aAcs l∧ε 7=.v (.int .i64 (chk xss))) ?_ ?_
 ·intro N X R hN
  push_cast (maxSteps:=999999) -implicitDefEqProofs (disch:=omega)[hρ]
  refine Q3 hCk ?_
  rintro a rfl
  push_cast (maxSteps:=999999) -implicitDefEqProofs (disch:=omega)[aInt]
  exact hN _ _ (by push_cast (maxSteps:=999999) -implicitDefEqProofs (disch:=omega)[hρ])
 clear hρ ε
 rintro ε σ hρ
 by_cases hc:chk xss=0
 ·obtain ⟨hk1000,hok⟩:=YD hc
  refine Qg (fun ε σ=>ε 0=aInts2 xss∧ε 1=aAcs l) ?_ ?_
  ·intro N hN
   push_cast (maxSteps:=999999) -implicitDefEqProofs (disch:=omega)[hρ,hc]
   exact hN _ _ (by push_cast (maxSteps:=999999) -implicitDefEqProofs (disch:=omega)[hρ])
  clear hρ ε
  rintro ε σ hρ
  refine Qg (fun ε σ=>(ε 0=aInts2 xss∧ε 1=aAcs l)∧∀a∈l,¬(a.st < 0∨(xss.length:Int)≤a.st)) ?_ ?_
  ·intro N hN
   push_cast (maxSteps:=999999) -implicitDefEqProofs (disch:=omega)[hρ]
   refine Qv (α:=Nat) (I:=fun k ε σ=>(ε 0=aInts2 xss∧ε 1=aAcs l∧ε 8=.v (.int .i64 k))∧k≤l.length∧∀a∈l.take k,¬(a.st < 0∨(xss.length:Int)≤a.st))
    (μ:=fun k=>l.length - k) (Q:=fun ε σ=>(ε 0=aInts2 xss∧ε 1=aAcs l)∧∀a∈l,¬(a.st < 0∨(xss.length:Int)≤a.st)) (x:=0) ?_ ?_ ?_
   ·push_cast (maxSteps:=999999) -implicitDefEqProofs (disch:=omega)[hρ]
    exact ⟨by omega,fun a ha=>absurd ha (by simp)⟩
   ·rintro k ε σ N E ⟨hρ,hk2,hgo⟩ hN hE
    simp only[Q45]
    by_cases hlt:k < l.length
    ·obtain ⟨a,ha⟩:=Ql hlt
     have hd:=Qp Qt ha
     have g0:∀t:List AV,(aAc a++t)[0]?=some (.v (.int .i64 a.st)):=fun _=>rfl
     by_cases c1:a.st < 0
     ·push_cast (maxSteps:=999999) -implicitDefEqProofs (disch:=omega)[hρ,hX,hA,hd,g0,c1]
      exact fin _ (-1,-1,3) (.inr (.inl ⟨hc,⟨a,List.mem_of_getElem? ha,.inl c1⟩,rfl⟩))
     ·by_cases c2:(xss.length:Int)≤a.st
      ·push_cast (maxSteps:=999999) -implicitDefEqProofs (disch:=omega)[hρ,hX,hA,hd,g0,c1,c2]
       exact fin _ (-1,-1,3) (.inr (.inl ⟨hc,⟨a,List.mem_of_getElem? ha,.inr c2⟩,rfl⟩))
      ·push_cast (maxSteps:=999999) -implicitDefEqProofs (disch:=omega)[hρ,hX,hA,hd,g0,c1,c2]
       refine hN (k+1) _ _ ?_ (by omega)
       push_cast (maxSteps:=999999) -implicitDefEqProofs (disch:=omega)[hρ,hX,hA]
       refine ⟨by omega,fun b hb=>?_⟩
       rw[Qe ha] at hb
       rcases List.mem_append.1 hb with hb|hb
       ·exact hgo b hb
       ·simp at hb;subst hb;omega
    ·push_cast (maxSteps:=999999) -implicitDefEqProofs (disch:=omega)[hρ,hA]
     refine hE _ _ ?_
     push_cast (maxSteps:=999999) -implicitDefEqProofs (disch:=omega)[hρ,hA]
     rwa [List.take_of_length_le (by omega)] at hgo
   ·rintro ε σ h
    exact hN _ _ h
  clear hρ ε
  rintro ε σ ⟨hρ,hgood⟩
  have hnb:¬badS xss l:=fun ⟨a,ha,hb⟩=>hgood a ha hb
  refine Qg (fun ε σ=>FC (clash xss l) l.length none) ?_ ?_
  ·intro N hN
   push_cast (maxSteps:=999999) -implicitDefEqProofs (disch:=omega)[hρ]
   refine Qv (α:=Nat) (I:=fun k ε σ=>(ε 0=aInts2 xss∧ε 1=aAcs l∧ε 9=.v (.int .i64 k))∧k≤l.length∧FC (clash xss l) k none)
    (μ:=fun k=>l.length - k) (Q:=fun ε σ=>FC (clash xss l) l.length none) (x:=0) ?_ ?_ ?_
   ·push_cast (maxSteps:=999999) -implicitDefEqProofs (disch:=omega)[hρ]
    exact ⟨by omega,fun k h=>by omega⟩
   ·rintro k ε σ N E ⟨hρ,hk2,hfc⟩ hN hE
    simp only[Q47]
    by_cases hlt:k < l.length
    ·obtain ⟨b,hb⟩:=Ql hlt
     have hdb:=Qp Qt hb
     have b0:∀t:List AV,(aAc b++t)[0]?=some (.v (.int .i64 b.st)):=fun _=>rfl
     have b1:∀t:List AV,(aAc b++t)[1]?=some (.v (.int .i64 b.wd)):=fun _=>rfl
     have b2:∀t:List AV,(aAc b++t)[2]?=some (.v (.bool b.wr)):=fun _=>rfl
     have hbr:=hgood b (List.mem_of_getElem? hb)
     have hAhb:=XL xss b.st hs hs2 hok
     have hyl:=X93 xss hok b.st
     obtain ⟨y,hy⟩:∃y,y=aheadE xss b.st:=⟨_,rfl⟩
     rw[←hy] at hAhb hyl
     push_cast (maxSteps:=999999) -implicitDefEqProofs (disch:=omega)[hρ,hX,hA,hdb,b0]
     refine Q3 hAhb ?_
     rintro a rfl
     push_cast (maxSteps:=999999) -implicitDefEqProofs (disch:=omega)[hρ]
     refine Qv (α:=Nat) (I:=fun i ε σ=>(ε 0=aInts2 xss∧ε 1=aAcs l∧ε 9=.v (.int .i64 k)∧ε 10=.sl y.length (y.map aBool) .none∧ε 11=.v (.int .i64 i))∧i≤k∧∀j,j < i→clash xss l j k=false)
      (μ:=fun i=>k - i) (Q:=fun ε σ=>(ε 0=aInts2 xss∧ε 1=aAcs l∧ε 9=.v (.int .i64 k))∧∀j,j < k→clash xss l j k=false) (x:=0) ?_ ?_ ?_
     ·push_cast (maxSteps:=999999) -implicitDefEqProofs (disch:=omega)[hρ,hX,hA]
      first|exact ⟨rfl,by omega,fun j h=>by omega⟩|exact ⟨by omega,fun j h=>by omega⟩
     ·clear hρ ε
      rintro i ε σ N E ⟨hρ,hi,hno⟩ hN hE
      simp only[Q46]
      by_cases hlti:i < k
      ·obtain ⟨a,ha⟩:=Ql (l:=l) (k:=i) (by omega)
       have hda:=Qp Qt ha
       have a0:∀t:List AV,(aAc a++t)[0]?=some (.v (.int .i64 a.st)):=fun _=>rfl
       have a1:∀t:List AV,(aAc a++t)[1]?=some (.v (.int .i64 a.wd)):=fun _=>rfl
       have a2:∀t:List AV,(aAc a++t)[2]?=some (.v (.bool a.wr)):=fun _=>rfl
       have har:=hgood a (List.mem_of_getElem? ha)
       have hcl:=clash_ref hok ha hb (by omega) (by omega) (by omega) (by omega)
       rw[←hy] at hcl
       obtain ⟨yb,hyb⟩:=Ql (l:=y) (k:=a.st.toNat) (by omega)
       rw[List.getD_eq_getElem?_getD (l:=y),hyb] at hcl
       have goOn:clash xss l i k=false→act (N ((ε.set 11 (.v (.int .i64 ((i:Nat)+1:Int))))) σ)→True:=fun _ _=>trivial
       have nxt:clash xss l i k=false→∀j,j < i+1→clash xss l j k=false:=fun h j hj=>by
        by_cases e:j=i
        ·subst e;exact h
        ·exact hno j (by omega)
       clear goOn
       by_cases c1:a.wd=b.wd
       ·cases cw:(a.wr||b.wr) with
        | false=>
         have hwa:a.wr=false:=by cases h:a.wr with|false=>rfl|true=>rw[h] at cw;simp at cw
         have hwb:b.wr=false:=by cases h:b.wr with|false=>rfl|true=>rw[h] at cw;simp at cw
         push_cast (maxSteps:=999999) -implicitDefEqProofs (disch:=omega)[hρ,hX,hA,hda,hdb,a0,a1,a2,b0,b1,b2,c1,hwa,hwb]
         refine hN (i+1) _ _ ?_ (by omega)
         push_cast (maxSteps:=999999) -implicitDefEqProofs (disch:=omega)[hρ,hX,hA]
         exact ⟨by omega,nxt (by rw[hcl,cw];simp)⟩
        | true=>
         have hcase:a.wr=true∨(a.wr=false∧b.wr=true):=by cases h:a.wr with|true=>exact .inl rfl|false=>rw[h] at cw;exact .inr ⟨rfl,by simpa using cw⟩
         by_cases c3:a.st=b.st
         ·have hcf:clash xss l i k=false:=by rw[hcl];simp[c3]
          rcases hcase with hwa|⟨hwa,hwb⟩
          ·push_cast (maxSteps:=999999) -implicitDefEqProofs (disch:=omega)[hρ,hX,hA,hda,hdb,a0,a1,a2,b0,b1,b2,c1,hwa,c3]
           refine hN (i+1) _ _ ?_ (by omega)
           push_cast (maxSteps:=999999) -implicitDefEqProofs (disch:=omega)[hρ,hX,hA]
           exact ⟨by omega,nxt hcf⟩
          ·push_cast (maxSteps:=999999) -implicitDefEqProofs (disch:=omega)[hρ,hX,hA,hda,hdb,a0,a1,a2,b0,b1,b2,c1,hwa,hwb,c3]
           refine hN (i+1) _ _ ?_ (by omega)
           push_cast (maxSteps:=999999) -implicitDefEqProofs (disch:=omega)[hρ,hX,hA]
           exact ⟨by omega,nxt hcf⟩
         ·cases yb with
          | true=>
           have hcf:clash xss l i k=false:=by rw[hcl];simp
           rcases hcase with hwa|⟨hwa,hwb⟩
           ·push_cast (maxSteps:=999999) -implicitDefEqProofs (disch:=omega)[hρ,hX,hA,hda,hdb,a0,a1,a2,b0,b1,b2,c1,hwa,c3,hyb,aBool]
            refine hN (i+1) _ _ ?_ (by omega)
            push_cast (maxSteps:=999999) -implicitDefEqProofs (disch:=omega)[hρ,hX,hA]
            exact ⟨by omega,nxt hcf⟩
           ·push_cast (maxSteps:=999999) -implicitDefEqProofs (disch:=omega)[hρ,hX,hA,hda,hdb,a0,a1,a2,b0,b1,b2,c1,hwa,hwb,c3,hyb,aBool]
            refine hN (i+1) _ _ ?_ (by omega)
            push_cast (maxSteps:=999999) -implicitDefEqProofs (disch:=omega)[hρ,hX,hA]
            exact ⟨by omega,nxt hcf⟩
          | false=>
           have hAha:=XL xss a.st hs hs2 hok
           have hxl:=X93 xss hok a.st
           obtain ⟨x,hx⟩:∃x,x=aheadE xss a.st:=⟨_,rfl⟩
           rw[←hx] at hAha hxl hcl
           obtain ⟨xb,hxb⟩:=Ql (l:=x) (k:=b.st.toNat) (by omega)
           rw[List.getD_eq_getElem?_getD (l:=x),hxb] at hcl
           have step:∀(h:clash xss l i k=!xb),True:=fun _=>trivial
           have hcx:clash xss l i k=!xb:=by rw[hcl,cw];simp[c1,c3]
           rcases hcase with hwa|⟨hwa,hwb⟩
           ·push_cast (maxSteps:=999999) -implicitDefEqProofs (disch:=omega)[hρ,hX,hA,hda,hdb,a0,a1,a2,b0,b1,b2,c1,hwa,c3,hyb,aBool]
            refine Q3 hAha ?_
            rintro z rfl
            cases xb with
            | true=>
             push_cast (maxSteps:=999999) -implicitDefEqProofs (disch:=omega)[hρ,hX,hA,hda,hdb,a0,b0,hxb,aBool,aSl]
             refine hN (i+1) _ _ ?_ (by omega)
             push_cast (maxSteps:=999999) -implicitDefEqProofs (disch:=omega)[hρ,hX,hA]
             exact ⟨by omega,nxt hcx⟩
            | false=>
             push_cast (maxSteps:=999999) -implicitDefEqProofs (disch:=omega)[hρ,hX,hA,hda,hdb,a0,b0,hxb,aBool,aSl]
             exact fin _ ((i:Int),(k:Int),0) (.inr (.inr ⟨hc,hnb,some (i,k),⟨hlti,hlt,hcx,hno,hfc⟩,rfl⟩))
           ·push_cast (maxSteps:=999999) -implicitDefEqProofs (disch:=omega)[hρ,hX,hA,hda,hdb,a0,a1,a2,b0,b1,b2,c1,hwa,hwb,c3,hyb,aBool]
            refine Q3 hAha ?_
            rintro z rfl
            cases xb with
            | true=>
             push_cast (maxSteps:=999999) -implicitDefEqProofs (disch:=omega)[hρ,hX,hA,hda,hdb,a0,b0,hxb,aBool,aSl]
             refine hN (i+1) _ _ ?_ (by omega)
             push_cast (maxSteps:=999999) -implicitDefEqProofs (disch:=omega)[hρ,hX,hA]
             exact ⟨by omega,nxt hcx⟩
            | false=>
             push_cast (maxSteps:=999999) -implicitDefEqProofs (disch:=omega)[hρ,hX,hA,hda,hdb,a0,b0,hxb,aBool,aSl]
             exact fin _ ((i:Int),(k:Int),0) (.inr (.inr ⟨hc,hnb,some (i,k),⟨hlti,hlt,hcx,hno,hfc⟩,rfl⟩))
       ·push_cast (maxSteps:=999999) -implicitDefEqProofs (disch:=omega)[hρ,hX,hA,hda,hdb,a0,a1,a2,b0,b1,b2,c1]
        refine hN (i+1) _ _ ?_ (by omega)
        push_cast (maxSteps:=999999) -implicitDefEqProofs (disch:=omega)[hρ,hX,hA]
        exact ⟨by omega,nxt (by rw[hcl];simp[c1])⟩
      ·push_cast (maxSteps:=999999) -implicitDefEqProofs (disch:=omega)[hρ]
       refine hE _ _ ?_
       push_cast (maxSteps:=999999) -implicitDefEqProofs (disch:=omega)[hρ,hX,hA]
       exact fun j hj=>hno j (by omega)
     ·clear hρ ε
      rintro ε σ ⟨hρ,hno⟩
      push_cast (maxSteps:=999999) -implicitDefEqProofs (disch:=omega)[hρ]
      refine hN (k+1) _ _ ?_ (by omega)
      push_cast (maxSteps:=999999) -implicitDefEqProofs (disch:=omega)[hρ,hX,hA]
      refine ⟨by omega,fun k' hk' i hi=>?_⟩
      by_cases e:k'=k
      ·subst e;exact hno i hi
      ·exact hfc k' (by omega) i hi
    ·push_cast (maxSteps:=999999) -implicitDefEqProofs (disch:=omega)[hρ,hA]
     refine hE _ _ ?_
     rwa [show k=l.length by omega] at hfc
   ·rintro ε σ h
    exact hN _ _ h
  clear hρ ε
  rintro ε σ hfc
  push_cast (maxSteps:=999999) -implicitDefEqProofs (disch:=omega)
  exact fin _ (-1,-1,0) (.inr (.inr ⟨hc,hnb,none,hfc,rfl⟩))
 ·push_cast (maxSteps:=999999) -implicitDefEqProofs (disch:=omega)[hρ,hc]
  exact fin _ (-1,-1,chk xss) (.inl ⟨hc,rfl⟩)
end Go.Proofs.YtncdnegdlkmicaaGreat.Rc
