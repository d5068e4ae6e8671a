/- The document's evaluator: run: children met, faults: the walks. -/
import Derived.Test.YtncdnegdlkmicaaGreatQEke
namespace Go.Proofs.YtncdnegdlkmicaaGreat.Sr
set_option linter.unusedVariables false
set_option linter.unusedSimpArgs false
open Go Go.Kx Go.Proofs
theorem endsE_k {e:Ef} (h:e.k≤12):endsE e=decide (7≤e.k):=by
 unfold endsE
 by_cases c:7≤e.k
 ·rw[decide_eq_true c,decide_eq_true ⟨c,h⟩]
 ·rw[decide_eq_false c,decide_eq_false (fun x=>c x.1)]
section
variable {m:Int} {fs:List (List Ix)} {d N:Nat} {σ σ2:Kx.St} {iv fi tj:Nat} {deep:Int} {r:Int×List Int×Ef×Int} {lp:List Int} {s:Sv} {F:Sf} {ε:AEnv} {Nx:AEnv→Kx.St→Prop}
set_option maxHeartbeats 16000000 in
theorem round_meet (hM:Mid σ iv fi m fs N tj deep r lp s F ε σ2) (h1:fi≠iv) (h2:fi≠tj) (hm:s.marks.length≤1000000) (hk:r.2.2.1.k≤12) {K:List Sf} (hl:s.l=F::K)
  (hN:∀ε' σ',Mid σ iv fi m fs N tj deep r lp (s.meet r.2.2.1) { F with dirty:=F.dirty&&!endsE r.2.2.1 } ε' σ'→act (Nx ε' σ')) {A4:SCode} (hA4:A4=(match Q9 with|.seq _ (.block _ (.seq _ (.seq _ (.seq _ (.seq a _)))))=>a|_=>.skip)) (X:Nat→AEnv→Kx.St→Prop) (R:AEnv→Kx.St→Prop):
  act (wpA Tryz.prog A4 Nx X R ε σ2):=by
 subst hA4
 simp only[Q9]
 obtain ⟨A,B,t',htj,hρ,hD,hf,hA,hB,⟨n1,n2,n3,n4,n5,n6⟩,hK⟩:=hM
 obtain ⟨_,he⟩:=meet_f (s:=s) (e:=r.2.2.1) hl
 have g0:(aEf r.2.2.1)[0]?=some (.v (.int .i64 r.2.2.1.k)):=rfl
 have f12:=fr12 F lp false
 rw[endsE_k hk] at he hN
 by_cases c7:7≤r.2.2.1.k
 ·cases hdr:F.dirty with
  | true=>
   rw[hdr] at f12
   have he':(s.meet r.2.2.1).e=(s.mark 6 0).e:=by rw[he,hdr];simp[c7]
   have hs1:(σ2.set fi (Res.obj 0 (frC { F with dirty:=false } lp false)))[fi]?=some (.obj 0 (frC { F with dirty:=false } lp false)):=Q4 hf
   have hD1:=hD.setO (r:=.obj 0 (frC { F with dirty:=false } lp false)) hf h1 (by rw[htj];exact h2)
   have hA1:(σ2.set fi (Res.obj 0 (frC { F with dirty:=false } lp false)))[A]?=some (.obj 0 (aRg r.2.1)):=Q0 (Ne.symm n3) hA
   have hB1:(σ2.set fi (Res.obj 0 (frC { F with dirty:=false } lp false)))[B]?=some (.obj 0 (aEf r.2.2.1)):=Q0 (Ne.symm n6) hB
   have hK1:=hK.trans (Kp.set (S:=fun k=>k=iv∨k=fi∨k=tj) (k:=fi) (.inr (.inl rfl)) (.obj 0 (frC { F with dirty:=false } lp false)))
   have hmk:=QP hD1 hm 6 0
   push_cast (disch:=omega)[hρ,hB,g0,c7,hf,f12]
   refine Q6 rfl rfl hf (by rw[Q25];decide) ?_
   rw[frs12]
   push_cast (disch:=omega)[hρ]
   refine Q2 hmk ?_
   rintro a σ' ⟨rfl,t2,q0,q1,q3⟩
   push_cast (disch:=omega)[hρ]
   refine hN _ _ ⟨A,B,t2,q0.trans htj,by push_cast (disch:=omega)[hρ],q1.e he',?_,q3.2 A _ n1 hA1,q3.2 B _ n4 hB1,⟨n1,n2,n3,n4,n5,n6⟩,hK1.trans (q3.weak fun k hk=>.inl hk)⟩
   have:=q3.2 fi _ h1 hs1
   rw[this,hdr]
   simp[c7]
  | false=>
   rw[hdr] at f12
   have he':(s.meet r.2.2.1).e=s.e:=by rw[he,hdr];simp
   push_cast (disch:=omega)[hρ,hB,g0,c7,hf,f12]
   refine hN _ _ ⟨A,B,t',htj,by push_cast (disch:=omega)[hρ],hD.e he',?_,hA,hB,⟨n1,n2,n3,n4,n5,n6⟩,hK⟩
   rw[hf,hdr]
   have:F={ F with dirty:=false }:=by cases F;simp at hdr;subst hdr;rfl
   simp only[Bool.false_and]
   rw[←this]
 ·have he':(s.meet r.2.2.1).e=s.e:=by rw[he];simp[c7]
  push_cast (disch:=omega)[hρ,hB,g0,c7]
  refine hN _ _ ⟨A,B,t',htj,by push_cast (disch:=omega)[hρ],hD.e he',?_,hA,hB,⟨n1,n2,n3,n4,n5,n6⟩,hK⟩
  rw[hf]
  simp[c7]
set_option maxHeartbeats 16000000 in
theorem round_fault (hM:Mid σ iv fi m fs N tj deep r lp s F ε σ2) (hs:s.status=0)
  (hN:r.2.2.2=0→∀ε' σ',Mid σ iv fi m fs N tj deep r lp s F ε' σ'→act (Nx ε' σ')) (X:Nat→AEnv→Kx.St→Prop) {R:AEnv→Kx.St→Prop}
  (hR:r.2.2.2≠0→∀ε' σ' t',t'.j=tj→DvAt σ' iv m fs N t' (s.stop 4 r.2.2.2)→Kp σ σ' (fun k=>k=iv∨k=fi∨k=tj)→σ'[fi]?=some (.obj 0 (frC F lp false))→act (R ε' σ'))
  (h1:fi≠iv)
  {A5:SCode} (hA5:A5=(match Q9 with|.seq _ (.block _ (.seq _ (.seq _ (.seq _ (.seq _ (.seq a _))))))=>a|_=>.skip)):
  act (wpA Tryz.prog A5 Nx X R ε σ2):=by
 subst hA5
 simp only[Q9]
 have hM':=hM
 obtain ⟨A,B,t',htj,hρ,hD,hf,hA,hB,⟨n1,n2,n3,n4,n5,n6⟩,hK⟩:=hM
 by_cases c:r.2.2.2=0
 ·rw[c] at hρ
  push_cast (disch:=omega)[hρ]
  exact hN c _ _ ⟨A,B,t',htj,by rw[c];push_cast (disch:=omega)[hρ],hD,hf,hA,hB,⟨n1,n2,n3,n4,n5,n6⟩,hK⟩
 ·push_cast (disch:=omega)[hρ,c]
  refine Q2 (Z39 hD hs 4 r.2.2.2) ?_
  rintro a σ' ⟨rfl,q1,q3⟩
  push_cast (disch:=omega)[hρ]
  exact hR c _ _ t' htj q1 (hK.trans (q3.weak fun k hk=>.inl hk)) (q3.2 fi _ h1 hf)
end
end Go.Proofs.YtncdnegdlkmicaaGreat.Sr
