/- Rxl:25-138 -/
import Derived.Test.YtncdnegdlkmicaaGreatQYr
import Derived.Test.YtncdnegdlkmicaaGreatQCRah
namespace Go.Proofs.YtncdnegdlkmicaaGreat.Rx
set_option linter.unusedVariables false
set_option linter.unusedSimpArgs false
open Go Go.Kx Go.Proofs
section
set_option maxHeartbeats 2000000 in
theorem XL (xss:List (List Int)) (b:Int) (hs:xss.length≤1000000) (hs2:∀l∈xss,l.length≤1000000) (hok:okB 0 xss=true):
  FnP Tryz.prog 29 [aInts2 xss,aInt b] fun a=>a=aSl aBool (aheadE xss b):=by
 refine Qh Z73 mixed rfl (by simp[AV.pureL,QL,Qr]) ?_
 simp only[Q77,aInts2,aSl,aInt]
 push_cast (disch:=omega)
 refine Y9 rfl (by omega) (by omega) ?_
 push_cast (disch:=omega)[X23]
 have fin:∀o:List Bool,o=aheadE xss b→o.length=xss.length→act (∃is,(AV.res (Go.Kx.freeze is [.obj 0 (o.map aBool)]) (.ms 0 0 0 xss.length 1)).pure=true ∧
   AV.res (Go.Kx.freeze is [.obj 0 (o.map aBool)]) (.ms 0 0 0 xss.length 1)=.sl (aheadE xss b).length ((aheadE xss b).map aBool) .none):=by
  rintro o rfl hl
  refine ZA [0] ?_ (aBools_pure _)
  rw[XP (i:=0) rfl (aBoolL_res _ _),X83 rfl (by simp[hl]),hl]
 by_cases hb:0≤b∧b < (xss.length:Int)
 ·obtain ⟨n,rfl⟩:∃n:Nat,b=n:=⟨b.toNat,by omega⟩
  obtain ⟨l,hl⟩:=Ql (l:=xss) (k:=n) (by omega)
  have hll:=hs2 l (List.mem_of_getElem? hl)
  push_cast (disch:=omega)
  rw[repBo]
  refine Qv (α:=Nat) (I:=fun t ε σ=>(ε 0=.sl xss.length (xss.map aInts) .none∧ε 1=.v (.int .i64 n)∧ε 5=.ms 0 0 0 xss.length 1∧ε 6=.v (.int .i64 t))∧t≤l.length∧σ=[.obj 0 ((markL (List.replicate xss.length false) (l.take t)).map aBool)])
   (μ:=fun t=>l.length - t) (Q:=fun ε σ=>(ε 0=.sl xss.length (xss.map aInts) .none∧ε 1=.v (.int .i64 n)∧ε 5=.ms 0 0 0 xss.length 1)∧σ=[.obj 0 ((markL (List.replicate xss.length false) l).map aBool)]) (x:=0) ?_ ?_ ?_
  ·push_cast (disch:=omega)
   exact ⟨by omega,rfl⟩
  ·rintro t ε σ N E ⟨hρ,ht,rfl⟩ hN hE
   simp only[Q38]
   by_cases htl:t < l.length
   ·obtain ⟨p,hp⟩:=Ql htl
    have hpk:=Z7 hok hl p (List.mem_of_getElem? hp)
    obtain ⟨q,rfl⟩:∃q:Nat,p=q:=⟨p.toNat,by omega⟩
    have hqn:q < n:=by omega
    push_cast (disch:=omega)[hρ,hl,hp,aInts,aSl,aInt]
    refine Q6 rfl rfl rfl (by simp[Q37];omega) ?_
    push_cast (disch:=omega)[hρ,setBo]
    refine hN (t+1) _ _ ?_ (by omega)
    push_cast (disch:=omega)[hρ]
    exact ⟨by omega,by rw[Qe hp,X04];rfl⟩
   ·push_cast (disch:=omega)[hρ,hl,aInts,aSl]
    refine hE _ _ ?_
    push_cast (disch:=omega)[hρ]
    rw[List.take_of_length_le (by omega)]
  ·rintro ε σ ⟨hρ,rfl⟩
   push_cast (disch:=omega)[hρ]
   have hG:(xss.getD n [])=l:=by simp[List.getD_eq_getElem?_getD,hl]
   have hA:aheadE xss n=downE xss n (markL (List.replicate xss.length false) l):=by
    unfold aheadE;rw[if_pos hb,Int.toNat_natCast,hG]
   refine Qv (α:=Nat) (I:=fun i ε σ=>(ε 0=.sl xss.length (xss.map aInts) .none∧ε 5=.ms 0 0 0 xss.length 1∧ε 7=.v (.int .i64 ((i:Int) - 1)))∧i≤n ∧
     ∃o:List Bool,o.length=xss.length∧aheadE xss n=downE xss i o∧σ=[.obj 0 (o.map aBool)])
    (μ:=fun i=>i) (Q:=fun ε σ=>ε 5=.ms 0 0 0 xss.length 1∧∃o:List Bool,o.length=xss.length∧o=aheadE xss n∧σ=[.obj 0 (o.map aBool)]) (x:=n) ?_ ?_ ?_
   ·push_cast (disch:=omega)[hρ]
    exact ⟨by omega,_,by simp[Q37],hA,rfl⟩
   ·rintro i ε σ N E ⟨hρ,hi,o,hol,hod,rfl⟩ hN hE
    simp only[Q40]
    cases i with
    | zero=>
     have e0:((0:Nat):Int) - 1=-1:=by omega
     rw[e0] at hρ
     push_cast (disch:=omega)[hρ]
     refine hE _ _ ?_
     push_cast (disch:=omega)[hρ]
     exact ⟨o,hol,hod.symm,rfl⟩
    | succ j=>
     have e0:((j+1:Nat):Int) - 1=(j:Int):=by omega
     rw[e0] at hρ
     obtain ⟨m,hm⟩:=Ql (l:=xss) (k:=j) (by omega)
     have hml:=hs2 m (List.mem_of_getElem? hm)
     have hmG:(xss.getD j [])=m:=by simp[List.getD_eq_getElem?_getD,hm]
     obtain ⟨c,hc⟩:=Ql (l:=o) (k:=j) (by omega)
     have hcG:o.getD j false=c:=by simp[List.getD_eq_getElem?_getD,hc]
     simp only[downE,hmG,hcG] at hod
     cases c with
     | false=>
      push_cast (disch:=omega)[hρ,hc,aBool]
      refine hN j _ _ ?_ (by omega)
      push_cast (disch:=omega)[hρ]
      exact ⟨by omega,o,hol,by simpa using hod,rfl⟩
     | true=>
      push_cast (disch:=omega)[hρ,hc,aBool]
      refine Qv (α:=Nat) (I:=fun t ε σ=>(ε 0=.sl xss.length (xss.map aInts) .none∧ε 5=.ms 0 0 0 xss.length 1∧ε 7=.v (.int .i64 j)∧ε 8=.v (.int .i64 t))∧t≤m.length∧σ=[.obj 0 ((markL o (m.take t)).map aBool)])
       (μ:=fun t=>m.length - t) (Q:=fun ε σ=>(ε 0=.sl xss.length (xss.map aInts) .none∧ε 5=.ms 0 0 0 xss.length 1∧ε 7=.v (.int .i64 j))∧σ=[.obj 0 ((markL o m).map aBool)]) (x:=0) ?_ ?_ ?_
      ·push_cast (disch:=omega)[hρ]
       exact ⟨by omega,rfl⟩
      ·rintro t ε σ N' E' ⟨hρ,ht,rfl⟩ hN' hE'
       simp only[Q39]
       by_cases htl:t < m.length
       ·obtain ⟨p,hp⟩:=Ql htl
        have hpk:=Z7 hok hm p (List.mem_of_getElem? hp)
        obtain ⟨q,rfl⟩:∃q:Nat,p=q:=⟨p.toNat,by omega⟩
        have hqn:q < j:=by omega
        push_cast (disch:=omega)[hρ,hm,hp,aInts,aSl,aInt]
        refine Q6 rfl rfl rfl (by simp[Q37];omega) ?_
        push_cast (disch:=omega)[hρ,setBo]
        refine hN' (t+1) _ _ ?_ (by omega)
        push_cast (disch:=omega)[hρ]
        exact ⟨by omega,by rw[Qe hp,X04];rfl⟩
       ·push_cast (disch:=omega)[hρ,hm,aInts,aSl]
        refine hE' _ _ ?_
        push_cast (disch:=omega)[hρ]
        rw[List.take_of_length_le (by omega)]
      ·rintro ε σ ⟨hρ,rfl⟩
       push_cast (disch:=omega)[hρ]
       refine hN j _ _ ?_ (by omega)
       push_cast (disch:=omega)[hρ]
       exact ⟨by omega,_,by rw[Q37,hol],by simpa using hod,rfl⟩
   ·rintro ε σ ⟨hρ,o,hol,ho,rfl⟩
    push_cast (disch:=omega)[hρ]
    exact fin o ho hol
 ·by_cases hb0:b < 0
  ·push_cast (disch:=omega)
   rw[repBo]
   exact fin _ (by unfold aheadE;rw[if_neg hb]) (by simp)
  ·push_cast (disch:=omega)
   rw[repBo]
   exact fin _ (by unfold aheadE;rw[if_neg hb]) (by simp)
end
end Go.Proofs.YtncdnegdlkmicaaGreat.Rx
