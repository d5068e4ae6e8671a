/- The machine, plain: what is counted, over a whole run. -/
import Derived.Test.YtelibaobkcokdaaGreatB2Mxw
namespace Go.Proofs.YtelibaobkcokdaaGreat.Mx
set_option linter.unusedVariables false
set_option linter.unusedSimpArgs false
open Go Go.Kx Go.Proofs Go.Proofs.YtelibaobkcokdaaGreat
set_option maxRecDepth 8000
theorem sum_set (f:Wk→Int) {l:List Wk} {k:Nat} {w:Wk} (h:l[k]?=some w) (w':Wk):((l.set k w').map f).sum=(l.map f).sum - f w+f w':=by
 induction l generalizing k with
 | nil=>cases h
 | cons a l ih=>
  cases k with
  | zero=>
   simp at h;subst h
   simp only[List.set_cons_zero,List.map_cons,List.sum_cons];omega
  | succ k=>
   simp only[List.getElem?_cons_succ] at h
   simp only[List.set_cons_succ,List.map_cons,List.sum_cons,ih h];omega
theorem sum_ge (f:Wk→Int) {l:List Wk} (h:∀w∈l,0≤f w):0≤(l.map f).sum∧∀w∈l,f w≤(l.map f).sum:=by
 induction l with
 | nil=>exact ⟨by simp,by simp⟩
 | cons a l ih=>
  obtain ⟨i1,i2⟩:=ih fun w hw=>h w (List.mem_cons_of_mem _ hw)
  have ha:=h a (List.mem_cons_self ..)
  simp only[List.map_cons,List.sum_cons]
  refine ⟨by omega,fun w hw=>?_⟩
  rcases List.mem_cons.1 hw with rfl|hw
  ·omega
  ·have:=i2 w hw;omega
def st1 (w:Wk):Int:=if w.state=1 then 1 else 0
structure Cnt (q:Pm) (m:Mc) (n:Nat):Prop where
 st:m.c.steps=n
 nn:n≤8388608
 ln:(m.l.length:Int)=q.W
 ow:∀(k:Nat) (w:Wk),m.l[k]?=some w→w.own=k
 p0:∀w∈m.l,0≤w.probed
 pr:m.c.probes=(m.l.map Wk.probed).sum
 pn:m.c.probes≤n
 s0:0≤m.c.steals
 sl:m.c.steals+(m.l.map st1).sum≤m.c.probes
 one:q.W=1→m.c.steals=0∧∀w∈m.l,w.state≠1
 ct:(0≤m.c.parks∧0≤m.c.naps∧0≤m.c.folds)∧m.c.parks+m.c.naps+m.c.folds≤n
 ar:ArI q.F m.c
 pk:1≤m.c.peak
theorem Cnt.step {q:Pm} {m:Mc} {n:Nat} (h:Cnt q m n) (hW:1≤q.W) (he:m.ended=false) (worker victim:Int):Cnt q (m.step q worker victim) (n+1):=by
 have h0:m.c.status=0∧m.c.steps < 8388608:=by
  unfold Mc.ended at he
  have:=of_decide_eq_false he
  omega
 have hst:=h.st
 have hln:=h.ln
 have hrm:0≤(max worker 0) % q.W∧(max worker 0) % q.W < q.W:=⟨Int.emod_nonneg _ (by omega),Int.emod_lt_of_pos _ (by omega)⟩
 have hk:pickN q worker < m.l.length:=by unfold pickN;omega
 obtain ⟨w,hw⟩:=Q42 hk
 have hmem:=List.mem_of_getElem? hw
 have e:m.step q worker victim=⟨(wkStep q (w,m.c) victim).2,m.l.set (pickN q worker) (wkStep q (w,m.c) victim).1⟩:=by
  unfold Mc.step
  rw[if_neg (by rw[he];decide),List.getD_eq_getElem?_getD,hw]
  rfl
 obtain ⟨a1,a2⟩:=sum_ge Wk.probed h.p0
 have b1:∀w:Wk,0≤st1 w:=fun w=>by unfold st1;split<;>omega
 obtain ⟨b2,b3⟩:=sum_ge st1 (l:=m.l) fun w _=>b1 w
 have hpw:=a2 w hmem
 have hpr:=h.pr
 have hpn:=h.pn
 have hp0:=h.p0 w hmem
 have hs0:=h.s0
 have hsl:=h.sl
 obtain ⟨⟨c1,c2,c3⟩,c4⟩:=h.ct
 have hn:=h.nn
 obtain ⟨k1,k2,k3,k4,k5,k6,k7,k8,k9,k10,k11⟩:=q2_step (q:=q) (x:=(w,m.c)) victim h0.1 ⟨w64_1 c1 (by dsimp only;omega),w64_1 c2 (by dsimp only;omega),w64_1 c3 (by dsimp only;omega)⟩ (w64_1 hp0 (by dsimp only;omega)) (w64_1 (by dsimp only;omega) (by dsimp only;omega)) (w64_1 hs0 (by dsimp only;omega))
 have hA:=ar_wkStep (q:=q) (x:=(w,m.c)) victim
 rw[w64_1 (by dsimp only;omega) (by dsimp only;omega)] at k1
 rw[e]
 generalize hy:wkStep q (w,m.c) victim=y at k1 k2 k3 k4 k5 k6 k7 k8 k9 k10 k11 hA
 dsimp only at k1 k2 k3 k4 k5 k6 k7 k8 k9 k10 k11
 have hself:(m.l.set (pickN q worker) y.1)[pickN q worker]?=some y.1:=List.getElem?_set_self hk
 have hall:∀(P:Wk→Prop),(∀w∈m.l,P w)→P y.1→∀w∈m.l.set (pickN q worker) y.1,P w:=fun P h1 h2 v hv=>by
  rcases List.mem_or_eq_of_mem_set hv with hv|rfl
  ·exact h1 v hv
  ·exact h2
 have hsp:=sum_set Wk.probed hw y.1
 have hss:=sum_set st1 hw y.1
 have hu:∀v:Wk,st1 v=if v.state=1 then 1 else 0:=fun _=>rfl
 rw[←hu,←hu] at k5
 refine ⟨by dsimp only;omega,by omega,by simpa using hln,fun j v hv=>?_,hall _ h.p0 (by omega),by dsimp only;rw[hsp];omega,by dsimp only;omega,by dsimp only;omega,by dsimp only;rw[hss];omega,fun hW1=>?_,by dsimp only;omega,hA.1 _ h.ar,by have:=h.pk;have:=hA.2;dsimp only at *;omega⟩
 ·by_cases c:pickN q worker=j
  ·subst c
   rw[hself] at hv;cases hv
   rw[k6];exact h.ow _ w hw
  ·rw[List.getElem?_set_ne c] at hv
   exact h.ow j v hv
 ·obtain ⟨o1,o2⟩:=h.one hW1
  have hj:pickN q worker=0:=by unfold pickN;rw[hW1];omega
  have how:=h.ow _ w hw
  rw[hj] at how
  obtain ⟨r1,r2⟩:=k7 hW1 how (o2 w hmem)
  exact ⟨by dsimp only;omega,hall _ o2 r1⟩
theorem cs0_next {q:Pm} (hq:q.Ok) (M:Nat) (inp:List Int):(cs0 q M inp).nextId=some (1,[],1):=by
 have hF:=hq.2.2.1
 have hl:(cs0 q M inp).held.length=(q.F+1).toNat:=by simp[cs0]
 unfold Cs.nextId
 have e1:(cs0 q M inp).back=[]:=rfl
 have e2:(cs0 q M inp).fresh=0:=rfl
 have e3:w64 ((0:Int)+1)=1:=by decide
 rw[e1,e2,hl,e3]
 simp only[List.getLast?_nil]
 rw[if_neg (by omega)]
theorem cs0_ar {q:Pm} (hq:q.Ok) (M:Nat) (inp:List Int):ArI q.F (cs0 q M inp):=by
 have hF:=hq.2.2.1
 have hl:(cs0 q M inp).held=List.replicate (q.F+1).toNat false:=rfl
 have hg:∀i,(cs0 q M inp).held.getD i false=false:=fun i=>by
  rw[hl,List.getD_eq_getElem?_getD,List.getElem?_replicate];split<;>rfl
 refine ⟨hF,by rw[hl,List.length_replicate];omega,hg 0,List.nodup_nil,by simp[cs0],⟨Int.le_refl _,by show (0:Int)≤_;omega⟩,fun i _=>hg i,⟨Int.le_refl _,by show (0:Int)≤_;omega⟩⟩
theorem mk0_eq {q:Pm} (hq:q.Ok) (M:Nat) (inp:List Int):makeF q (cs0 q M inp) { fm0 with kind:=1 }=(some 1,mk0 q M inp):=by
 unfold makeF mk0 Cs.make Cs.take
 rw[cs0_next hq M inp]
theorem mk0_c {q:Pm} (hq:q.Ok) (M:Nat) (inp:List Int):C0 (cs0 q M inp) (mk0 q M inp):=makeC (mk0_eq hq M inp)
theorem mk0_peak {q:Pm} (hq:q.Ok) (M:Nat) (inp:List Int):1≤(mk0 q M inp).peak:=by
 have hF:=hq.2.2.1
 have e:(mk0 q M inp).peak=max 0 (usedN ((cs0 q M inp).held.set (1:Int).toNat true):Int):=by
  unfold mk0 Cs.make Cs.take
  rw[cs0_next hq M inp]
  rfl
 have h1:1≤usedN ((cs0 q M inp).held.set (1:Int).toNat true):=by
  unfold usedN
  refine List.countP_pos_iff.2 ⟨true,?_,rfl⟩
  have hl:(cs0 q M inp).held.length=(q.F+1).toNat:=by simp[cs0]
  exact List.mem_of_getElem? (List.getElem?_set_self (by rw[hl];omega))
 rw[e];omega
theorem mkM_cnt {q:Pm} (hq:q.Ok) (M:Nat) (inp:List Int):Cnt q (mkM q M inp) 0:=by
 have hW:=hq.1
 obtain ⟨c1,c2,c3,c4,c5,c6⟩:=mk0_c hq M inp
 have hA:=(ar_make q (cs0 q M inp) { fm0 with kind:=1 }).1 _ (cs0_ar hq M inp)
 rw[mk0_eq hq M inp] at hA
 have hl:∀(k:Nat) (w:Wk),(mkM q M inp).l[k]?=some w→w.own=k∧w.probed=0∧w.state≠1:=by
  intro k w hw
  unfold mkM at hw
  dsimp only at hw
  by_cases c:0=k
  ·subst c
   rw[List.getElem?_set_self (by simp;omega)] at hw
   cases hw
   exact ⟨rfl,rfl,by simp[Wk.runs]⟩
  ·rw[List.getElem?_set_ne c,List.getElem?_map] at hw
   by_cases hk:k < q.W.toNat
   ·rw[List.getElem?_range hk] at hw
    cases hw
    exact ⟨rfl,rfl,by simp[wkNew]⟩
   ·rw[List.getElem?_eq_none (by simp;omega)] at hw
    cases hw
 have hm:∀w∈(mkM q M inp).l,w.probed=0∧w.state≠1:=fun w hw=>by
  obtain ⟨k,hk⟩:=List.mem_iff_getElem?.1 hw
  exact (hl k w hk).2
 have z:∀(f:Wk→Int) (l:List Wk),(∀w∈l,f w=0)→(l.map f).sum=0:=by
  intro f l h
  induction l with
  | nil=>rfl
  | cons a l ih=>
   rw[List.map_cons,List.sum_cons,h a (List.mem_cons_self ..),ih fun w hw=>h w (List.mem_cons_of_mem _ hw)];rfl
 have z1:=z Wk.probed _ fun w hw=>(hm w hw).1
 have z2:=z st1 _ fun w hw=>if_neg (hm w hw).2
 refine ⟨c1,by omega,?_,fun k w h=>(hl k w h).1,fun w hw=>by rw[(hm w hw).1];omega,c2.trans z1.symm,by rw[show (mkM q M inp).c.probes=0 from c2];omega,by rw[show (mkM q M inp).c.steals=0 from c3];omega,?_,fun _=>⟨c3,fun w hw=>(hm w hw).2⟩,?_,hA,mk0_peak hq M inp⟩
 ·simp[mkM];omega
 ·rw[z2,show (mkM q M inp).c.steals=0 from c3,show (mkM q M inp).c.probes=0 from c2];omega
 ·rw[show (mkM q M inp).c.parks=0 from c4,show (mkM q M inp).c.naps=0 from c5,show (mkM q M inp).c.folds=0 from c6];omega
end Go.Proofs.YtelibaobkcokdaaGreat.Mx
