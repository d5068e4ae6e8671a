/- The machine's invariant: a step of the machine. -/
import Derived.Test.YtelibaobkcokdaaGreatAZ2G33
import Derived.Test.YtelibaobkcokdaaGreatProg
import Derived.KernelRfl
namespace Go.Proofs.YtelibaobkcokdaaGreat.Mx.In
set_option linter.unusedSectionVars false
set_option linter.unusedVariables false
set_option linter.unusedSimpArgs false
open Go Go.Kx Go.Proofs Go.Proofs.YtelibaobkcokdaaGreat Go.Proofs.YtelibaobkcokdaaGreat.Mx
set_option linter.unusedSectionVars false
section
variable {q:Pm} {m:Mc} {k:Nat} {n:Int} {P:Int→Pc} {H T:Nat→Int} {cl:Nat→Nat} {cn:Int→Int} {rg:Nat→Int} {pc:Int→Int→Int}
theorem Be.act (h:Be q m k n P H T cl cn rg pc) (hT:∀j,T j≤n) (ht:Tk m.l.length (aDR q m.c m.l) n) (hs:(wkAt m.l k).state≠0):Af q m k n (actF q (wkAt m.l k,m.c)):=by
 have hst:=h.ok.st;have hc:(wkAt m.l k).state=1∨(wkAt m.l k).state=2∨(wkAt m.l k).state=3∨(wkAt m.l k).state=4∨(wkAt m.l k).state=5∨(wkAt m.l k).state=6∨(wkAt m.l k).state=7∨(wkAt m.l k).state=8∨(wkAt m.l k).state=9∨(wkAt m.l k).state=10∨(wkAt m.l k).state=11∨(wkAt m.l k).state=12∨(wkAt m.l k).state=13∨(wkAt m.l k).state=14∨(wkAt m.l k).state=15∨(wkAt m.l k).state=16∨(wkAt m.l k).state=17∨(wkAt m.l k).state=18∨(wkAt m.l k).state=19∨(wkAt m.l k).state=20∨(wkAt m.l k).state=21∨(wkAt m.l k).state=22∨(wkAt m.l k).state=23∨(wkAt m.l k).state=24:=by omega
 rcases hc with e|e|e|e|e|e|e|e|e|e|e|e|e|e|e|e|e|e|e|e|e|e|e|e
 ·rw[show actF q (wkAt m.l k,m.c)=stealF q (wkAt m.l k,m.c) by simp[actF,e]];exact h.steal hT ht e
 ·rw[show actF q (wkAt m.l k,m.c)=popF q (wkAt m.l k,m.c) by simp[actF,e]];exact h.pop hT ht e
 ·rw[show actF q (wkAt m.l k,m.c)=pushF q (wkAt m.l k,m.c) by simp[actF,e]];exact h.push hT ht e
 ·rw[show actF q (wkAt m.l k,m.c)=runF q (wkAt m.l k,m.c) by simp[actF,e]];exact h.run e
 ·rw[show actF q (wkAt m.l k,m.c)=joinedF q (wkAt m.l k,m.c) by simp[actF,e]];exact h.joined e
 ·rw[show actF q (wkAt m.l k,m.c)=spawnF q (wkAt m.l k,m.c) by simp[actF,e]];exact h.spawn e
 ·rw[show actF q (wkAt m.l k,m.c)=arriveF q (wkAt m.l k,m.c) by simp[actF,e]];exact h.arrive e
 ·rw[show actF q (wkAt m.l k,m.c)=resumeF q (wkAt m.l k,m.c) by simp[actF,e]];exact h.resume e
 ·rw[show actF q (wkAt m.l k,m.c)=advanceF q (wkAt m.l k,m.c) by simp[actF,e]];exact h.advance e
 ·rw[show actF q (wkAt m.l k,m.c)=peekF q (wkAt m.l k,m.c) by simp[actF,e]];exact h.peek e
 ·rw[show actF q (wkAt m.l k,m.c)=checkF2 q (wkAt m.l k,m.c) by simp[actF,e]];exact h.check e
 ·rw[show actF q (wkAt m.l k,m.c)=lookF q (wkAt m.l k,m.c) by simp[actF,e]];exact h.look e
 ·rw[show actF q (wkAt m.l k,m.c)=parksF q (wkAt m.l k,m.c) by simp[actF,e]];exact h.parks e
 ·rw[show actF q (wkAt m.l k,m.c)=endsF q (wkAt m.l k,m.c) by simp[actF,e]];exact h.ends e
 ·rw[show actF q (wkAt m.l k,m.c)=closesF q (wkAt m.l k,m.c) by simp[actF,e]];exact h.closes e
 ·rw[show actF q (wkAt m.l k,m.c)=dropF q (wkAt m.l k,m.c) by simp[actF,e]];exact h.drop e
 ·rw[show actF q (wkAt m.l k,m.c)=finishF q (wkAt m.l k,m.c) by simp[actF,e]];exact h.finish e
 ·rw[show actF q (wkAt m.l k,m.c)=completeF (wkAt m.l k,m.c) by simp[actF,e]];exact h.complete e
 ·rw[show actF q (wkAt m.l k,m.c)=loopF q (wkAt m.l k,m.c) by simp[actF,e]];exact h.loop e
 ·rw[show actF q (wkAt m.l k,m.c)=napsF q (wkAt m.l k,m.c) by simp[actF,e]];exact h.naps e
 ·rw[show actF q (wkAt m.l k,m.c)=startF q (wkAt m.l k,m.c) by simp[actF,e]];exact h.start21 e
 ·rw[show actF q (wkAt m.l k,m.c)=countF q (wkAt m.l k,m.c) by simp[actF,e]];exact h.count e
 ·rw[show actF q (wkAt m.l k,m.c)=nameF2 q (wkAt m.l k,m.c) by simp[actF,e]];exact h.name e
 ·rw[show actF q (wkAt m.l k,m.c)=joinsF q (wkAt m.l k,m.c) by simp[actF,e]];exact h.joins e
end
def IT (q:Pm) (m:Mc) (n:Int):Prop:=Nx q m n∧m.c.steps=n
theorem IT.step {q:Pm} {m:Mc} {n k0:Nat} (h:IT q m n) (hc:Cnt q m n) (hk:McOk m k0) (he:m.ended=false) (hn:n < 100000) (worker victim:Int):IT q (m.step q worker victim) (n+1:Nat):=by
 obtain ⟨⟨P,H,T,cl,cn,rg,pc,g,hT,ht⟩,hst⟩:=h;have h0:m.c.status=0∧m.c.steps < 8388608:=by unfold Mc.ended at he;have:=of_decide_eq_false he;omega
 have hln:=g.ln;have hW:=g.ok.1;have hrm:0≤(max worker 0) % q.W∧(max worker 0) % q.W < q.W:=⟨Int.emod_nonneg _ ke,Int.emod_lt_of_pos _ ke⟩;have hkl:pickN q worker < m.l.length:=by unfold pickN;omega
 have e:m.step q worker victim=⟨(wkStep q (wkAt m.l (pickN q worker),m.c) victim).2,m.l.set (pickN q worker) (wkStep q (wkAt m.l (pickN q worker),m.c) victim).1⟩:=by unfold Mc.step;rw[if_neg (by rw[he];decide)];rfl
 have hs':=(hc.step ke he worker victim).st;have har:=(hc.step ke he worker victim).ar;have hwk:=(hk.step q worker victim).wk;rw[e] at hs' har hwk ⊢;generalize pickN q worker=k at hkl hs' har hwk ⊢;have hwk':WkOk (wkStep q (wkAt m.l k,m.c) victim).1:=hwk _ (List.mem_iff_getElem?.2 ⟨k,List.getElem?_set_self hkl⟩);refine ⟨?_,hs'⟩;have ew:w64 (m.c.steps+1)=m.c.steps+1:=Q54 ke ke
 have hmem:wkAt m.l k∈m.l:=by
  have:m.l[k]?=some (wkAt m.l k):=by unfold wkAt;rw[List.getD_eq_getElem?_getD,List.getElem?_eq_getElem hkl];rfl
  exact List.mem_of_getElem? this
 have hb:Be q ⟨{ m.c with steps:=m.c.steps+1 },m.l⟩ k n P H T cl cn rg pc:=by
  have l1:=g.lim;refine ⟨⟨g.ok,g.ws,g.hl,g.ln,g.wk,g.ow,⟨g.ar.f,g.ar.hl,g.ar.h0,g.ar.nd,g.ar.bk,g.ar.fr,g.ar.ab,g.ar.pk⟩,⟨by show 0≤m.c.steps+1;omega,by show m.c.steps+1≤_;omega,by show m.c.serial≤m.c.steps+1;omega,fun id=>by have:=l1.2.2.2 id;show (m.c.at id).started≤m.c.steps+1;omega⟩,g.dq,g.ci,g.ni,g.ta,g.wh,g.gs,g.vr,g.fl⟩,hkl,by omega,by show m.c.steps+1=_;omega,by show m.c.serial≤_;omega,fun id=>by have:=l1.2.2.2 id;show (m.c.at id).started≤_;omega,fun j=>by have:=hT j;omega,?_,?_⟩
  ·exact Tk.mono ht rfl rfl
  ·refine ⟨hc.p0 _ hmem,?_⟩;have a1:=(sum_ge Wk.probed hc.p0).2 _ hmem;have a2:=hc.pr;have a3:=hc.pn;show (wkAt m.l k).probed≤_;omega
 have key:Af q ⟨{ m.c with steps:=m.c.steps+1 },m.l⟩ k n (wkStep q (wkAt m.l k,m.c) victim):=by
  unfold wkStep;dsimp only;rw[if_neg (by rw[h0.1];decide),ew];split
  ·rename_i c;exact hb.seek ht c victim
  ·rename_i c;exact hb.act hT ht c
 have:=key hwk' har;have e2:((n+1:Nat):Int)=(n:Int)+1:=by omega
 rw[e2];exact this
end Go.Proofs.YtelibaobkcokdaaGreat.Mx.In
namespace Go.Proofs.YtelibaobkcokdaaGreat.Mx
set_option linter.unusedSectionVars false
set_option linter.unusedVariables false
set_option linter.unusedSimpArgs false
open Go Go.Kx Go.Proofs Go.Proofs.YtelibaobkcokdaaGreat
def noneB (s:Int):Bool:=[0,1,2,7,8,13,17,20].contains s
def loopB (s:Int):Bool:=[18,19,21,22,23,24].contains s
theorem Z84 (s:Int):noneB s=true↔s=0∨s=1∨s=2∨s=7∨s=8∨s=13∨s=17∨s=20:=by simp[noneB]
theorem loopB_iff (s:Int):loopB s=true↔s=18∨s=19∨s=21∨s=22∨s=23∨s=24:=by simp[loopB]
def takeE (ks seen:List Int) (id:Int):Int:=if id < 1∨(ks.length:Int) < id∨ks.getD (id - 1).toNat 0=0 then 7 else if seen.contains id then 10 else 0
def holdE (ks seen:List Int) (v:Int×Int):Int:=
 if v.1 < 0∨24 < v.1 then 3
 else if (v.2≠0∧noneB v.1=true)∨(v.2=0∧noneB v.1=false∧v.1≠3) then 8
 else if v.2=0 then 0
 else if takeE ks seen v.2≠0 then takeE ks seen v.2
 else if v.1≠3∧loopB v.1≠decide (ks.getD (v.2 - 1).toNat 0=3) then 5 else 0
def seen1 (seen:List Int) (id:Int):List Int:=if id=0 then seen else seen++[id]
def viewsE (ks:List Int):List Int→List (Int×Int)→Int×List Int
 | seen,[]=>(0,seen)
 | seen,v::l=>if holdE ks seen v≠0 then (holdE ks seen v,seen) else viewsE ks (seen1 seen v.2) l
def dequeE (ks:List Int):List Int→List Int→Int×List Int
 | seen,[]=>(0,seen)
 | seen,x::l=>if takeE ks seen x≠0 then (takeE ks seen x,seen) else dequeE ks (seen++[x]) l
def dequesE (ks:List Int):List Int→List (List Int)→Int
 | _,[]=>0
 | seen,l::ls=>if (dequeE ks seen l).1≠0 then (dequeE ks seen l).1 else dequesE ks (dequeE ks seen l).2 ls
def lookE (views:List (Int×Int)) (deques:List (List Int)) (ks:List Int):Int:=
 if (viewsE ks [] views).1≠0 then (viewsE ks [] views).1 else dequesE ks (viewsE ks [] views).2 deques
def deqL (q:Pm) (ws:List Int) (j:Int):List Int:=(List.range (ldW ws (q.base j+1) - ldW ws (q.base j)).toNat).map fun i:Nat=>ldW ws (q.slot j (ldW ws (q.base j)+(i:Nat)))
def Mc.views (m:Mc):List (Int×Int):=m.l.map fun w=>(w.state,w.holds)
def Mc.deqs (q:Pm) (m:Mc):List (List Int):=(List.range m.l.length).map fun j=>deqL q m.c.ws (j:Nat)
def Mc.kinds (m:Mc):List Int:=(List.range 256).map fun i=>(m.c.at ((i:Nat)+1)).kind
end Go.Proofs.YtelibaobkcokdaaGreat.Mx
namespace Go.Proofs.YtelibaobkcokdaaGreat.Mx.In
set_option linter.unusedVariables false
set_option linter.unusedSimpArgs false
open Go Go.Kx Go.Proofs Go.Proofs.YtelibaobkcokdaaGreat Go.Proofs.YtelibaobkcokdaaGreat.Mx
set_option linter.unusedSectionVars false
section
variable {q:Pm} {m:Mc} {P:Int→Pc} {H T:Nat→Int} {cl:Nat→Nat} {cn:Int→Int} {rg:Nat→Int} {pc:Int→Int→Int}
theorem kinds_at (m:Mc) {id:Int} (h1:1≤id) (h2:id≤256):m.kinds.getD (id - 1).toNat 0=(m.c.at id).kind:=by unfold Mc.kinds;rw[List.getD_eq_getElem?_getD,List.getElem?_map,List.getElem?_range ke];show (m.c.at (((id - 1).toNat:Nat)+1)).kind=_;rw[show (((id - 1).toNat:Nat):Int)+1=id by omega]
theorem InvG.take (h:InvG q m P H T cl cn rg pc) {id:Int} (hp:P id≠.free) {seen:List Int} (hs:∀x∈seen,P x≠P id):takeE m.kinds seen id=0:=by
 have hb:=h.ni.b id hp;have hF:=h.ok.2.2.1;have hk:(m.c.at id).kind=1∨(m.c.at id).kind=2∨(m.c.at id).kind=3:=h.ci.f1 id hp;have hl:(m.kinds.length:Int)=256:=by unfold Mc.kinds;simp
 unfold takeE;rw[if_neg (by rw[kinds_at m ke ke];omega),if_neg];intro c;exact hs id (List.contains_iff_mem.1 c) rfl
theorem emp_none (s:Int):emp s=noneB s:=by rw[Bool.eq_iff_iff,Z84];unfold emp;simp
theorem InvG.hold (h:InvG q m P H T cl cn rg pc) {k:Nat} {w:Wk} (hw:m.l[k]?=some w) {seen:List Int} (hs:∀x∈seen,∃k' t,k' < k∧P x=.own k' t):
  holdE m.kinds seen (w.state,w.holds)=0∧∀x∈seen1 seen w.holds,∃k' t,k' < k+1∧P x=.own k' t:=by
 have hk:=Qh hw;have hkW:(k:Int) < q.W:=by have:=h.ln;omega
 have hwk:wkAt m.l k=w:=by unfold wkAt;rw[List.getD_eq_getElem?_getD,hw];rfl
 have est:(aRC q m.c m.l).st k=w.state:=by show (wkAt m.l k).state=_;rw[hwk]
 have eho:(aRC q m.c m.l).ho k=w.holds:=by show (wkAt m.l k).holds=_;rw[hwk]
 have hst:=(h.wk w (List.mem_of_getElem? hw)).st;have c2:=h.ci.c2 k hkW;have c3:=h.ci.c3 k hkW;rw[est,eho,emp_none] at c2 c3;have hs':∀x∈seen,∃k' t,k' < k+1∧P x=.own k' t:=fun x hx=>by obtain ⟨a,b,c,d⟩:=hs x hx;exact ⟨a,b,by omega,d⟩
 unfold holdE seen1;dsimp only
 rw[if_neg ke,if_neg (by
  rintro (⟨a,b⟩|⟨a,b,c⟩)
  ·exact a (c2 b)
  ·exact c3 b c a)]
 by_cases c:w.holds=0
 ·rw[if_pos c,if_pos c];exact ⟨rfl,hs'⟩
 ·have c1:=h.ci.c1 k hkW (by rw[eho];exact c);rw[eho,est] at c1;have hp:P w.holds≠.free:=by rw[c1];exact fun e=>by cases e
  have ht:=h.take hp (seen:=seen) (fun x hx e=>by obtain ⟨a,b,c',d⟩:=hs x hx;rw[d,c1] at e;injection e with e1 e2;omega);rw[if_neg c,if_neg c,ht,if_neg ki];refine ⟨if_neg ?_,fun x hx=>?_⟩
  ·rintro ⟨a,b⟩;have hb:=h.ni.b _ hp;have hF:=h.ok.2.2.1;rw[kinds_at m ke ke] at b
   have hne:noneB w.state=false:=by
    cases e:noneB w.state with
    | false=>rfl
    | true=>exact absurd (c2 e) c
   have a16:=h.ci.c16 k hkW;have b16:=h.ci.c16b k hkW;have c16:=h.ci.c16c k hkW;rw[est,eho] at a16 b16 c16;have a16':w.state=4∨w.state=5∨w.state=6→(m.c.at w.holds).kind≠3:=a16;have b16':_→(m.c.at w.holds).kind=2∧_:=b16;have c16':_→(m.c.at w.holds).kind=3:=c16;apply b;rw[Bool.eq_iff_iff,loopB_iff,decide_eq_true_iff];have hnn:¬noneB w.state=true:=by rw[hne];decide
   rw[Z84] at hnn;constructor
   ·intro e;exact c16' ke
   ·intro e;by_cases d1:w.state=4∨w.state=5∨w.state=6
    ·exact absurd e (a16' d1)
    ·by_cases d2:w.state=9∨w.state=10∨w.state=11∨w.state=12∨w.state=14∨w.state=15∨w.state=16
     ·have:=(b16' d2).1;omega
     ·omega
  ·rcases List.mem_append.1 hx with hx|hx
   ·exact hs' x hx
   ·rw[List.mem_singleton] at hx;subst hx;exact ⟨k,_,by omega,c1⟩
theorem InvG.views (h:InvG q m P H T cl cn rg pc):∀(l:List Wk) (k:Nat) (seen:List Int),m.l.drop k=l→(∀x∈seen,∃k' t,k' < k∧P x=.own k' t) →
  (viewsE m.kinds seen (l.map fun w=>(w.state,w.holds))).1=0∧∀x∈(viewsE m.kinds seen (l.map fun w=>(w.state,w.holds))).2,∃k' t,P x=.own k' t:=by
 intro l
 induction l with
 | nil=>intro k seen _ hs;exact ⟨rfl,fun x hx=>by obtain ⟨a,b,_,d⟩:=hs x hx;exact ⟨a,b,d⟩⟩
 | cons w l ih=>
  intro k seen hd hs;have hw:m.l[k]?=some w:=by have:=congrArg (fun x=>x[0]?) hd;simpa using this
  have hd2:m.l.drop (k+1)=l:=by have:=congrArg List.tail hd;simpa using this
  obtain ⟨h1,h2⟩:=h.hold hw hs;rw[List.map_cons];unfold viewsE;rw[if_neg (by rw[h1];simp)];exact ih (k+1) _ hd2 h2
def Sn (P:Int→Pc) (j:Nat) (n:Int) (seen:List Int):Prop:=∀x∈seen,(∃k t,P x=.own k t)∨∃j' n',P x=.deq j' n'∧(j' < j∨j'=j∧n' < n)
theorem InvG.deque (h:InvG q m P H T cl cn rg pc) {j:Nat} (hj:j < m.l.length):∀(c:Nat) (n:Int) (seen:List Int),H j≤n→n+c≤T j→Sn P j n seen →
  (dequeE m.kinds seen ((List.range c).map fun i=>ldW m.c.ws (q.slot j (n+(i:Nat))))).1=0∧Sn P j (n+c) (dequeE m.kinds seen ((List.range c).map fun i=>ldW m.c.ws (q.slot j (n+(i:Nat))))).2:=by
 intro c
 induction c with
 | zero=>intro n seen _ _ hs;exact ⟨rfl,by simpa[dequeE] using hs⟩
 | succ c ih=>
  intro n seen h1 h2 hs;have hjW:(j:Int) < q.W:=by have:=h.ln;omega
  have hp:=h.dq.co j hj n h1 ke;rw[sl_ld h hjW] at hp
  have ht:=h.take (id:=ldW m.c.ws (q.slot j n)) (by rw[hp];exact fun e=>by cases e) (seen:=seen) (fun x hx e=>by
   rw[hp] at e;rcases hs x hx with ⟨k,t,d⟩|⟨j',n',d,f⟩
   ·rw[d] at e;cases e
   ·rw[d] at e;injection e with e1 e2;omega)
  rw[List.range_succ_eq_map,List.map_cons,List.map_map];have e0:n+((0:Nat):Int)=n:=by omega
  unfold dequeE;rw[e0,ht,if_neg ki]
  have ih':=ih (n+1) (seen++[ldW m.c.ws (q.slot j n)]) ke ke (fun x hx=>by
   rcases List.mem_append.1 hx with hx|hx
   ·rcases hs x hx with a|⟨j',n',d,f⟩
    ·exact .inl a
    ·exact .inr ⟨j',n',d,by omega⟩
   ·rw[List.mem_singleton] at hx;subst hx;exact .inr ⟨j,n,hp,by omega⟩)
  have ee:((fun i:Nat=>ldW m.c.ws (q.slot j (n+(i:Nat)))) ∘ Nat.succ)=fun i:Nat=>ldW m.c.ws (q.slot j (n+1+(i:Nat))):=by funext i;show ldW m.c.ws (q.slot j (n+((i+1:Nat):Int)))=_;rw[show n+((i+1:Nat):Int)=n+1+i by omega]
  rw[ee];refine ⟨ih'.1,?_⟩;rw[show n+((c+1:Nat):Int)=n+1+c by omega];exact ih'.2
theorem InvG.deques (h:InvG q m P H T cl cn rg pc):∀(c j:Nat) (seen:List Int),j+c=m.l.length→Sn P j 0 seen→dequesE m.kinds seen ((List.range c).map fun i=>deqL q m.c.ws ((j+i:Nat):Int))=0:=by
 intro c
 induction c with
 | zero=>intro j seen _ _;rfl
 | succ c ih=>
  intro j seen hjc hs;have hj:j < m.l.length:=by omega
  have hjW:(j:Int) < q.W:=by have:=h.ln;omega
  have hrg:=h.dq.rg j hj;have hhd:=h.dq.hdH j hj;have htl:=h.dq.tlT j hj;rw[hd_ld h hjW] at hhd;rw[tl_ld h hjW] at htl
  have key:(dequeE m.kinds seen (deqL q m.c.ws (j:Nat))).1=0∧Sn P (j+1) 0 (dequeE m.kinds seen (deqL q m.c.ws (j:Nat))).2:=by
   unfold deqL;by_cases c0:ldW m.c.ws (q.base j+1)≤ldW m.c.ws (q.base j)
   ·rw[show (ldW m.c.ws (q.base j+1) - ldW m.c.ws (q.base j)).toNat=0 by omega];refine ⟨rfl,fun x hx=>?_⟩;rcases hs x hx with a|⟨j',n',d,f⟩
    ·exact .inl a
    ·exact .inr ⟨j',n',d,by omega⟩
   ·obtain ⟨a,b⟩:=h.deque hj (ldW m.c.ws (q.base j+1) - ldW m.c.ws (q.base j)).toNat (ldW m.c.ws (q.base j)) seen ke ke (fun x hx=>by
     rcases hs x hx with a|⟨j',n',d,f⟩
     ·exact .inl a
     ·exact .inr ⟨j',n',d,by omega⟩)
    refine ⟨a,fun x hx=>?_⟩;rcases b x hx with a|⟨j',n',d,f⟩
    ·exact .inl a
    ·exact .inr ⟨j',n',d,by omega⟩
  rw[List.range_succ_eq_map,List.map_cons,List.map_map];unfold dequesE;have e0:((j+0:Nat):Int)=(j:Nat):=by omega
  rw[e0,key.1,if_neg ki];have ee:((fun i:Nat=>deqL q m.c.ws ((j+i:Nat):Int)) ∘ Nat.succ)=fun i:Nat=>deqL q m.c.ws ((j+1+i:Nat):Int):=by funext i;show deqL q m.c.ws ((j+(i+1):Nat):Int)=_;rw[show j+(i+1)=j+1+i by omega]
  rw[ee];exact ih (j+1) _ ke key.2
theorem InvG.look (h:InvG q m P H T cl cn rg pc):lookE m.views (m.deqs q) m.kinds=0:=by obtain ⟨h1,h2⟩:=h.views m.l 0 [] ki ki;unfold lookE;rw[show m.views=m.l.map fun w=>(w.state,w.holds) from rfl,h1,if_neg ki];have:=h.deques m.l.length 0 _ ke (fun x hx=>.inl (h2 x hx));simpa[Mc.deqs] using this
theorem IT.look {n:Int} (h:IT q m n):lookE m.views (m.deqs q) m.kinds=0:=by obtain ⟨⟨P,H,T,cl,cn,rg,pc,g,_⟩,_⟩:=h;exact g.look
end
end Go.Proofs.YtelibaobkcokdaaGreat.Mx.In
namespace Go.Proofs.YtelibaobkcokdaaGreat
open Go Go.Kx Go.Proofs
set_option linter.unusedVariables false
set_option maxRecDepth 100000
set_option maxHeartbeats 16000000
noncomputable def Zw:=qH Tryz.prog 33
noncomputable def ZE:=qH Tryz.prog 34
noncomputable def Ye:=qH Tryz.prog 35
noncomputable def XN:=qH Tryz.prog 36
noncomputable def Yf:=qH Tryz.prog 64
noncomputable def Z50:=qH Tryz.prog 113
noncomputable def Z51:=qH Tryz.prog 114
noncomputable def X56:=qH Tryz.prog 193
noncomputable def X17:=qH Tryz.prog 194
end Go.Proofs.YtelibaobkcokdaaGreat
namespace Go.Proofs.YtelibaobkcokdaaGreat.Mx
set_option linter.unusedVariables false
set_option linter.unusedSimpArgs false
open Go Go.Kx Go.Proofs Go.Proofs.YtelibaobkcokdaaGreat
set_option maxRecDepth 8000
theorem loopB_eq {s:Int} (h1:s≤24):loopB s=(decide (18≤s)&&!noneB s):=by
 rw[Bool.eq_iff_iff,loopB_iff,Bool.and_eq_true,Bool.not_eq_true',decide_eq_true_eq];constructor
 ·rintro h;refine ⟨by omega,?_⟩
  cases hn:noneB s with
  | false=>rfl
  | true=>rw[Z84] at hn;omega
 ·rintro ⟨h,hn⟩;have:¬noneB s=true:=by simp[hn]
  rw[Z84] at this;omega
theorem X9 (s:Int):FnP Tryz.prog 193 [aInt s] fun a=>a=aBool (noneB s):=by
 refine Qg X56.2 mixed rfl eo ?_;simp only[X56,aInt,qH];by_cases h:noneB s=true
 ·rw[h];rw[Z84] at h;rcases h with rfl|rfl|rfl|rfl|rfl|rfl|rfl|rfl<;>(push_cast -implicitDefEqProofs;exact ⟨[],rfl,rfl⟩)
 ·have h':=h;rw[Z84] at h;have:noneB s=false:=by simpa using h'
  rw[this];have n0:¬s=0:=by omega
  have n1:¬s=1:=by omega
  have n2:¬s=2:=by omega
  have n3:¬s=7:=by omega
  have n4:¬s=8:=by omega
  have n5:¬s=13:=by omega
  have n6:¬s=17:=by omega
  have n7:¬s=20:=by omega
  push_cast -implicitDefEqProofs[n0,n1,n2,n3,n4,n5,n6,n7];exact ⟨[],rfl,rfl⟩
theorem Y47 (s:Int) (hs:s≤24):FnP Tryz.prog 194 [aInt s] fun a=>a=aBool (loopB s):=by
 refine Qg X17.2 mixed rfl eo ?_;simp only[X17,aInt,qH];rw[loopB_eq hs];by_cases h:18≤s
 ·push_cast -implicitDefEqProofs[h];refine Q5 (X9 s) ?_;push_cast -implicitDefEqProofs[aBool];exact ⟨[],rfl,by simp[h,aBool]⟩
 ·push_cast -implicitDefEqProofs[h];exact ⟨[],rfl,by simp[h,aBool]⟩
def seenL (n:Nat) (seen:List Int):List Bool:=(List.range n).map fun i:Nat=>seen.contains ((i:Int)+1)
theorem XO (n:Nat) (seen:List Int):(seenL n seen).length=n:=by simp[seenL]
theorem Y33 {n:Nat} {seen:List Int} {i:Nat} (h:i < n):(seenL n seen)[i]?=some (seen.contains ((i:Int)+1)):=by simp[seenL,h]
theorem seenL_set {n:Nat} {seen:List Int} {i:Nat}:(seenL n seen).set i true=seenL n (seen++[(i:Int)+1]):=by
 apply List.ext_getElem?;intro j;rw[List.getElem?_set];by_cases hj:j < n
 ·rw[Y33 hj,Y33 hj,XO];by_cases e:i=j
  ·subst e;rw[if_pos rfl,if_pos hj];simp
  ·rw[if_neg e];congr 1;rw[Bool.eq_iff_iff];simp only[List.contains_iff_mem,List.mem_append,List.mem_singleton];exact ⟨.inl,fun h=>h.elim id fun h=>by omega⟩
 ·have h1:(seenL n seen)[j]?=none:=List.getElem?_eq_none (by rw[XO];omega);have h2:(seenL n (seen++[(i:Int)+1]))[j]?=none:=List.getElem?_eq_none (by rw[XO];omega);rw[h1,h2,XO];split
  ·rw[if_neg ke]
  ·rfl
theorem seenL_nil (n:Nat):(seenL n []).map aBool=List.replicate n (.v (.bool false)):=by simp only[seenL,List.map_map];apply List.ext_getElem?;intro j;by_cases h:j < n<;>simp[h,aBool]
def hObj (ks:List Int) (j:Nat):List AV:=[aInts ks,.ms j 0 0 ks.length 1]
set_option maxHeartbeats 1000000 in
theorem Yg (ks seen:List Int) (id:Int) (σ:St) (i j:Nat) (hn:ks.length≤1000000) (hi:σ[i]?=some (.obj 0 (hObj ks j))) (hj:σ[j]?=some (.obj 0 ((seenL ks.length seen).map aBool))) (hij:j≠i):
  FnG Tryz.prog 114 [.ref i 0 0,aInt id] σ fun a σ'=>a=.tup [aInt (if takeE ks seen id=0 then ks.getD (id - 1).toNat 0 else 0),aInt (takeE ks seen id)] ∧
   (∀(k:Nat) (r:Res),k≠j→σ[k]?=some r→σ'[k]?=some r)∧σ'[j]?=some (.obj 0 ((seenL ks.length (if takeE ks seen id=0 then seen++[id] else seen)).map aBool)):=by
 refine Q3 Z51.2 mixed rfl ?_;simp only[Z51,aInt,qH];by_cases h1:id < 1
 ·have e:takeE ks seen id=7:=by simp[takeE,h1]
  push_cast (maxSteps:=999999) -implicitDefEqProofs (disch:=omega)[h1];rw[e];exact ox
 by_cases h2:(ks.length:Int) < id
 ·have e:takeE ks seen id=7:=by simp[takeE,h2]
  push_cast (maxSteps:=999999) -implicitDefEqProofs (disch:=omega)[h1,h2,hi,hObj,aInts,aSl];rw[e];exact ox
 obtain ⟨m,rfl⟩:∃m:Nat,id=(m:Int)+1:=⟨(id - 1).toNat,by omega⟩;obtain ⟨x,hx⟩:=Q14 (l:=ks) (k:=m) ke;have e1:((m:Int)+1 - 1)=m:=by omega
 have hgd:ks.getD m 0=x:=by rw[List.getD_eq_getElem?_getD,hx];rfl
 have hsg:=Y33 (n:=ks.length) (seen:=seen) (i:=m) ke;by_cases h3:x=0
 ·have e:takeE ks seen (m+1)=7:=by unfold takeE;rw[if_pos (by rw[e1,Int.toNat_natCast,hgd];omega)]
  push_cast (maxSteps:=999999) -implicitDefEqProofs (disch:=omega)[h1,h2,hi,hObj,aInts,aSl,e1,hx,aInt,h3];rw[e];exact ox
 cases h4:seen.contains ((m:Int)+1) with
 | true=>
  have e:takeE ks seen (m+1)=10:=by unfold takeE;rw[if_neg (by rw[e1,Int.toNat_natCast,hgd];omega),if_pos h4]
  push_cast (maxSteps:=999999) -implicitDefEqProofs (disch:=omega)[h1,h2,hi,hj,hObj,aInts,aSl,e1,hx,aInt,h3,hsg,h4,aBool];rw[e];exact ox
 | false=>
  have e:takeE ks seen (m+1)=0:=by unfold takeE;rw[if_neg (by rw[e1,Int.toNat_natCast,hgd];omega),if_neg (by rw[h4];simp)]
  push_cast (maxSteps:=999999) -implicitDefEqProofs (disch:=omega)[h1,h2,hi,hj,hObj,aInts,aSl,e1,hx,aInt,h3,hsg,h4,aBool];refine Q8 (cs:=(seenL ks.length seen).map aBool) rfl rfl hj (by rw[List.length_map,XO];omega) ?_;rw[setBm,seenL_set];have hi2:(σ.set j (.obj 0 ((seenL ks.length (seen++[(m:Int)+1])).map aBool)))[i]?=some (.obj 0 [.sl ks.length (ks.map aInt) .none,.ms j 0 0 ks.length 1]):=Qa hij hi;have hj2:(σ.set j (.obj 0 ((seenL ks.length (seen++[(m:Int)+1])).map aBool)))[j]?=some (.obj 0 ((seenL ks.length (seen++[(m:Int)+1])).map aBool)):=Qc hj;have hfr:∀(k:Nat) (r:Res),k≠j→σ[k]?=some r→(σ.set j (.obj 0 ((seenL ks.length (seen++[(m:Int)+1])).map aBool)))[k]?=some r:=fun k r hk h=>Qa ke h;generalize σ.set j (.obj 0 ((seenL ks.length (seen++[(m:Int)+1])).map aBool))=S at hi2 hj2 hfr ⊢;push_cast (maxSteps:=999999) -implicitDefEqProofs (disch:=omega)[hi2,e1,hx,aInt];have hgd2:ks.getD ((m:Int)+1 - 1).toNat 0=x:=by rw[e1,Int.toNat_natCast,hgd]
  rw[e,hgd];exact ⟨rfl,hfr,hj2⟩
def aVq (s id t p:Int):List AV:=[.v (.int .i64 s),.v (.int .i64 id),.v (.int .i64 t),.v (.int .i64 p)]
set_option maxHeartbeats 1000000 in
theorem hands_hold_g (ks seen:List Int) (s id t p:Int) (σ:St) (i j:Nat) (hn:ks.length≤1000000) (hi:σ[i]?=some (.obj 0 (hObj ks j))) (hj:σ[j]?=some (.obj 0 ((seenL ks.length seen).map aBool))) (hij:j≠i):
  FnG Tryz.prog 113 [.ref i 0 0,.agg (aVq s id t p)] σ fun a σ'=>a=aInt (holdE ks seen (s,id))∧(∀(k:Nat) (r:Res),k≠j→σ[k]?=some r→σ'[k]?=some r) ∧
   (holdE ks seen (s,id)=0→σ'[j]?=some (.obj 0 ((seenL ks.length (seen1 seen id)).map aBool))):=by
 refine Q3 Z50.2 mixed rfl ?_;simp only[Z50,qH];push_cast (maxSteps:=999999) -implicitDefEqProofs (disch:=omega);refine Qs ?_;have hi1:(σ++[Res.obj 0 (AV.agg (aVq s id t p)).cells])[i]?=some (.obj 0 (hObj ks j)):=Qn hi;have hj1:(σ++[Res.obj 0 (AV.agg (aVq s id t p)).cells])[j]?=some (.obj 0 ((seenL ks.length seen).map aBool)):=Qn hj;have hb1:(σ++[Res.obj 0 (AV.agg (aVq s id t p)).cells])[σ.length]?=some (.obj 0 (aVq s id t p)):=Qe _ _;have hli:=Qh hi;have hlj:=Qh hj;have hfr:∀(k:Nat) (r:Res),k≠j→σ[k]?=some r→(σ++[Res.obj 0 (AV.agg (aVq s id t p)).cells])[k]?=some r:=fun k r _ h=>Qn h;generalize hS:(σ++[Res.obj 0 (AV.agg (aVq s id t p)).cells])=S at hi1 hj1 hb1 hfr ⊢;have hSl:S.length=σ.length+1:=by rw[←hS];simp
 generalize σ.length=b at *;clear hS;by_cases h1:s < 0
 ·have e:holdE ks seen (s,id)=3:=by simp[holdE,h1]
  push_cast (maxSteps:=999999) -implicitDefEqProofs (disch:=omega)[hb1,aVq,h1];rw[e];exact ⟨rfl,hfr,fun h=>by omega⟩
 by_cases h2:24 < s
 ·have e:holdE ks seen (s,id)=3:=by simp[holdE,h2]
  push_cast (maxSteps:=999999) -implicitDefEqProofs (disch:=omega)[hb1,aVq,h1,h2];rw[e];exact ⟨rfl,hfr,fun h=>by omega⟩
 by_cases h3:id=0
 ·subst h3;push_cast (maxSteps:=999999) -implicitDefEqProofs (disch:=omega)[hb1,aVq,h1,h2];refine Q5 (X9 s) ?_
  cases h4:noneB s with
  | true=>
   have e:holdE ks seen (s,0)=0:=by simp[holdE,h1,h2,h4]
   push_cast (maxSteps:=999999) -implicitDefEqProofs (disch:=omega)[hb1,aVq,h1,h2,aBool];rw[e];exact ⟨rfl,hfr,fun _=>hj1⟩
  | false=>
   by_cases h5:s=3
   ·have e:holdE ks seen (s,0)=0:=by simp[holdE,h5]
    push_cast (maxSteps:=999999) -implicitDefEqProofs (disch:=omega)[hb1,aVq,h1,h2,aBool,h5];rw[h5] at e;rw[e];exact ⟨rfl,hfr,fun _=>hj1⟩
   ·have e:holdE ks seen (s,0)=8:=by simp[holdE,h1,h2,h4,h5]
    push_cast (maxSteps:=999999) -implicitDefEqProofs (disch:=omega)[hb1,aVq,h1,h2,aBool,h5];rw[e];exact ⟨rfl,hfr,fun h=>by omega⟩
 push_cast (maxSteps:=999999) -implicitDefEqProofs (disch:=omega)[hb1,aVq,h1,h2,h3];refine Q5 (X9 s) ?_
 cases h4:noneB s with
 | true=>
  have e:holdE ks seen (s,id)=8:=by simp[holdE,h1,h2,h3,h4]
  push_cast (maxSteps:=999999) -implicitDefEqProofs (disch:=omega)[hb1,aVq,h1,h2,h3,aBool];rw[e];exact ⟨rfl,hfr,fun h=>by omega⟩
 | false=>
  push_cast (maxSteps:=999999) -implicitDefEqProofs (disch:=omega)[hb1,aVq,h1,h2,h3,aBool];refine Q0 (Yg ks seen id S i j hn hi1 hj1 hij) ?_;rintro a σ' ⟨rfl,hf2,hj2⟩;have hb2:=hf2 b _ ke hb1;have hfr2:∀(k:Nat) (r:Res),k≠j→σ[k]?=some r→σ'[k]?=some r:=fun k r hk h=>hf2 k r hk (hfr k r hk h);by_cases h5:takeE ks seen id=0
  ·have es:seen1 seen id=seen++[id]:=by unfold seen1;rw[if_neg h3]
   rw[if_pos h5] at hj2;by_cases h6:s=3
   ·have e:holdE ks seen (s,id)=0:=by subst h6;simp[holdE,h3,h4,h5]
    push_cast (maxSteps:=999999) -implicitDefEqProofs (disch:=omega)[hb2,aVq,h5,aInt,h6];rw[h6] at e;rw[e,es];exact ⟨rfl,hfr2,fun _=>hj2⟩
   ·push_cast (maxSteps:=999999) -implicitDefEqProofs (disch:=omega)[hb2,aVq,h5,aInt,h6];refine Q5 (Y47 s ke) ?_;generalize hx:ks.getD (id - 1).toNat 0=x;by_cases h7:loopB s=decide (x=3)
    ·have e:holdE ks seen (s,id)=0:=by unfold holdE;simp only;rw[if_neg ke,if_neg (by rw[h4];simp[h3]),if_neg h3,if_neg (by rw[h5];simp),if_neg (by rw[hx];simp[h7])]
     push_cast (maxSteps:=999999) -implicitDefEqProofs (disch:=omega)[aBool,h7,beq_self_eq_true,Bool.not_true];rw[e,es];exact ⟨rfl,hfr2,fun _=>hj2⟩
    ·have e:holdE ks seen (s,id)=5:=by unfold holdE;simp only;rw[if_neg ke,if_neg (by rw[h4];simp[h3]),if_neg h3,if_neg (by rw[h5];simp),if_pos (by rw[hx];exact ⟨h6,h7⟩)]
     have hb:(loopB s==decide (x=3))=false:=by simpa using h7
     push_cast (maxSteps:=999999) -implicitDefEqProofs (disch:=omega)[aBool,hb,Bool.not_false];rw[e];exact ⟨rfl,hfr2,fun h=>by omega⟩
  ·have e:holdE ks seen (s,id)=takeE ks seen id:=by unfold holdE;simp only;rw[if_neg ke,if_neg (by rw[h4];simp[h3]),if_neg h3,if_pos h5]
   push_cast (maxSteps:=999999) -implicitDefEqProofs (disch:=omega)[hb2,aVq,h5,aInt];rw[e];exact ⟨rfl,hfr2,fun h=>absurd h h5⟩
def vw (w:Wk):Int×Int:=(w.state,w.holds)
def viewsW (ks seen:List Int) (l:List Wk):Int×List Int:=viewsE ks seen (l.map vw)
theorem viewsW_nil (ks seen:List Int):viewsW ks seen []=(0,seen):=rfl
theorem Y34 (ks seen:List Int) (w:Wk) (l:List Wk):viewsW ks seen (w::l)=if holdE ks seen (w.state,w.holds)≠0 then (holdE ks seen (w.state,w.holds),seen) else viewsW ks (seen1 seen w.holds) l:=rfl
def lookW (views:List Wk) (deques:List (List Int)) (ks:List Int):Int:=if (viewsW ks [] views).1≠0 then (viewsW ks [] views).1 else dequesE ks (viewsW ks [] views).2 deques
theorem lookW_eq (views:List Wk) (deques:List (List Int)) (ks:List Int):lookW views deques ks=lookE (views.map vw) deques ks:=rfl
theorem aVws_p (L:List Wk):(aVws L).pure=true:=by
 have:AV.pureL (L.flatMap aVw)=true:=by
  induction L with
  | nil=>rfl
  | cons x l ih=>rw[List.flatMap_cons];simp[aVw,AV.pureL,AV.pure,ih]
 simp[aVws,AV.pure,this]
set_option maxHeartbeats 1000000 in
theorem Z52 (views:List Wk) (deques:List (List Int)) (ks:List Int) (hv:views.length≤1000000) (hd:deques.length≤1000000) (hd2:∀l∈deques,l.length≤1000000) (hn:ks.length≤1000000):
  FnP Tryz.prog 64 [aVws views,aInts2 deques,aInts ks] fun a=>a=aInt (lookW views deques ks):=by
 refine Qg Yf.2 mixed rfl (by simp[AV.pureL,aVws_p,YJ,Q67]) ?_;simp only[Yf,qH];refine Qb (fun ε σ=>(ε 0=aVws views∧ε 1=aInts2 deques∧ε 2=aInts ks)∧σ=[]) ?_ ?_
 ·intro N X R hN;push_cast -implicitDefEqProofs (disch:=omega);refine hN _ _ ?_;push_cast -implicitDefEqProofs (disch:=omega)
 rintro ε σ ⟨hρ,rfl⟩;refine Qb (fun ε σ=>(ε 0=aVws views∧ε 1=aInts2 deques∧ε 7=.ref 1 0 0)∧σ[1]?=some (.obj 0 (hObj ks 0))∧σ[0]?=some (.obj 0 ((seenL ks.length []).map aBool))) ?_ ?_
 ·intro N X R hN;push_cast -implicitDefEqProofs (disch:=omega)[hρ,aInts,aSl];refine X58 rfl ke ke ?_;push_cast -implicitDefEqProofs (disch:=omega)[hρ];have hf:fillA [AV.sl 0 [] Tok.nil,AV.sl 0 [] Tok.nil] [(0,1),(1,1)] [.sl ks.length (ks.map aInt) .none,.ms 0 0 0 ks.length 1]=some (hObj ks 0):=by simp[fillA,AV.cells,setAtA,hObj,aInts,aSl]
  push_cast -implicitDefEqProofs (disch:=omega)[hρ,hf];refine Qs ?_;push_cast -implicitDefEqProofs (disch:=omega);refine hN _ _ ?_;push_cast -implicitDefEqProofs (disch:=omega)[hρ];have hr:repA [abs1 (.bool false)] ks.length=(seenL ks.length []).map aBool:=by rw[seenL_nil];exact repA_one _ _
  rw[←hr];rfl
 clear hρ ε;rintro ε σ ⟨hρ,hs1,hs0⟩;refine Qv (fun ε σ=>(ε 1=aInts2 deques∧ε 7=.ref 1 0 0)∧(viewsW ks [] views).1=0∧σ[1]?=some (.obj 0 (hObj ks 0))∧σ[0]?=some (.obj 0 ((seenL ks.length (viewsW ks [] views).2).map aBool))) ?_ ?_
 ·intro N hN;push_cast -implicitDefEqProofs (disch:=omega)[hρ,aVws]
  refine Q73 (α:=Nat×List Int) (I:=fun k ε σ=>(ε 1=aInts2 deques∧ε 7=.ref 1 0 0∧ε 23=.sl views.length (views.flatMap aVw) .none∧ε 24=.v (.int .i64 views.length)∧ε 25=.v (.int .i64 k.1))∧k.1≤views.length ∧
    σ[1]?=some (.obj 0 (hObj ks 0))∧σ[0]?=some (.obj 0 ((seenL ks.length k.2).map aBool))∧viewsW ks [] views=viewsW ks k.2 (views.drop k.1))
   (μ:=fun k=>views.length - k.1) (Q:=fun ε σ=>(ε 1=aInts2 deques∧ε 7=.ref 1 0 0)∧(viewsW ks [] views).1=0∧σ[1]?=some (.obj 0 (hObj ks 0))∧σ[0]?=some (.obj 0 ((seenL ks.length (viewsW ks [] views).2).map aBool))) (x:=(0,[])) ?_ ?_ ?_
  ·push_cast -implicitDefEqProofs (disch:=omega)[hρ];exact oy
  ·rintro ⟨k,seen⟩ ε σ N E ⟨hρ,hk,hs1,hs0,hE0⟩ hN hE;simp only at hρ hk hs1 hs0 hE0;by_cases hlt:k < views.length
   ·obtain ⟨v,hv⟩:=Q14 hlt;have hd:=QQ XK hv;have hcl:∀m:List AV,cellsA (some 4) (aVw v++m)=some (.agg (aVw v)):=fun m=>by rw[Z08 _ _ (by simp[XK])];rfl
    rw[Xv hv] at hE0;push_cast -implicitDefEqProofs (disch:=omega)[hρ,hd,hcl];refine Ql ?_;push_cast -implicitDefEqProofs (disch:=omega);refine Qd (XK v) ku (Qe _ _) ki ?_;have hset:setAtA [AV.v (.int .i64 0),AV.v (.int .i64 0),AV.v (.int .i64 0),AV.v (.int .i64 0)] 0 (aVw v)=aVw v:=rfl;have hc0:cellsA (some 4) (aVw v)=some (.agg (aVw v)):=rfl;push_cast -implicitDefEqProofs (disch:=omega)[hset,hρ,hc0];refine Q0 (hands_hold_g ks seen v.state v.holds v.tail v.probed _ 1 0 hn (Qn hs1) (Qn hs0) ke) ?_;rintro a σ' ⟨rfl,hfr,hj⟩;have hs1':=hfr 1 _ ke (Qn hs1);by_cases h0:holdE ks seen (v.state,v.holds)=0
    ·have hj:=hj h0;push_cast -implicitDefEqProofs (disch:=omega)[hρ,aInt,h0];refine hN (k+1,seen1 seen v.holds) _ _ ?_ ek;push_cast -implicitDefEqProofs (disch:=omega)[hρ];refine ⟨by omega,hs1',hj,?_⟩;rw[hE0,Y34,if_neg (by rw[h0];simp)]
    ·push_cast -implicitDefEqProofs (disch:=omega)[hρ,aInt,h0]
     have:lookW views deques ks=holdE ks seen (v.state,v.holds):=by
      have e:(viewsW ks [] views).1=holdE ks seen (v.state,v.holds):=by rw[hE0,Y34,if_pos h0]
      unfold lookW;rw[e,if_pos h0]
     exact ⟨[],rfl,by rw[this]⟩
   ·push_cast -implicitDefEqProofs (disch:=omega)[hρ];refine hE _ _ ?_;rw[Y90 hlt,viewsW_nil] at hE0;push_cast -implicitDefEqProofs (disch:=omega)[hρ];rw[hE0];exact ⟨rfl,hs1,hs0⟩
  ·rintro ε σ h;exact hN _ _ h
 clear hρ hs1 hs0 ε σ;rintro ε σ ⟨hρ,hv0,hs1,hs0⟩;generalize hsn:(viewsW ks [] views).2=sn at hs0;have hlk:lookW views deques ks=dequesE ks sn deques:=by unfold lookW;rw[if_neg (by rw[hv0];simp),hsn]
 rw[hlk];have hdq:∀l∈deques,l.length≤1000000:=hd2;refine Qv (fun ε σ=>dequesE ks sn deques=0) ?_ ?_
 ·intro N hN;push_cast -implicitDefEqProofs (disch:=omega)[hρ,aInts2,aSl]
  refine Q73 (α:=Nat×List Int) (I:=fun k ε σ=>(ε 7=.ref 1 0 0∧ε 36=.sl deques.length (deques.map aInts) .none∧ε 37=.v (.int .i64 deques.length)∧ε 38=.v (.int .i64 k.1))∧k.1≤deques.length ∧
    σ[1]?=some (.obj 0 (hObj ks 0))∧σ[0]?=some (.obj 0 ((seenL ks.length k.2).map aBool))∧dequesE ks sn deques=dequesE ks k.2 (deques.drop k.1))
   (μ:=fun k=>deques.length - k.1) (Q:=fun ε σ=>dequesE ks sn deques=0) (x:=(0,sn)) ?_ ?_ ?_
  ·push_cast -implicitDefEqProofs (disch:=omega)[hρ];exact oy
  ·rintro ⟨k,seen⟩ ε σ N E ⟨hρ,hk,hs1,hs0,hE0⟩ hN hE;simp only at hρ hk hs1 hs0 hE0;by_cases hlt:k < deques.length
   ·obtain ⟨l,hl⟩:=Q14 hlt;have hll:=hdq l (List.mem_of_getElem? hl);rw[Xv hl] at hE0;push_cast -implicitDefEqProofs (disch:=omega)[hρ,hl,aInts,aSl]
    refine Q73 (α:=Nat×List Int) (I:=fun m ε σ=>(ε 7=.ref 1 0 0∧ε 36=.sl deques.length (deques.map aInts) .none∧ε 37=.v (.int .i64 deques.length)∧ε 38=.v (.int .i64 k) ∧
      ε 42=.sl l.length (l.map aInt) .none∧ε 43=.v (.int .i64 l.length)∧ε 44=.v (.int .i64 m.1))∧m.1≤l.length ∧
      σ[1]?=some (.obj 0 (hObj ks 0))∧σ[0]?=some (.obj 0 ((seenL ks.length m.2).map aBool))∧dequeE ks seen l=dequeE ks m.2 (l.drop m.1))
     (μ:=fun m=>l.length - m.1) (Q:=fun ε σ=>(ε 7=.ref 1 0 0∧ε 36=.sl deques.length (deques.map aInts) .none∧ε 37=.v (.int .i64 deques.length)∧ε 38=.v (.int .i64 k)) ∧
      (dequeE ks seen l).1=0∧σ[1]?=some (.obj 0 (hObj ks 0))∧σ[0]?=some (.obj 0 ((seenL ks.length (dequeE ks seen l).2).map aBool))) (x:=(0,seen)) ?_ ?_ ?_
    ·push_cast -implicitDefEqProofs (disch:=omega)[hρ];exact oy
    ·rintro ⟨m,see⟩ ε σ N' E' ⟨hρ,hm,hs1,hs0,hF⟩ hN' hE';simp only at hρ hm hs1 hs0 hF;by_cases hml:m < l.length
     ·obtain ⟨x,hx⟩:=Q14 hml;rw[Xv hx] at hF;push_cast -implicitDefEqProofs (disch:=omega)[hρ,hx,aInt];refine Q0 (Yg ks see x σ 1 0 hn hs1 hs0 ke) ?_;rintro a σ' ⟨rfl,hfr,hj⟩;have hs1':=hfr 1 _ ke hs1;by_cases h0:takeE ks see x=0
      ·rw[if_pos h0] at hj;push_cast -implicitDefEqProofs (disch:=omega)[hρ,aInt,h0];refine hN' (m+1,see++[x]) _ _ ?_ ek;push_cast -implicitDefEqProofs (disch:=omega)[hρ];refine ⟨by omega,hs1',hj,?_⟩;rw[hF,dequeE,if_neg (by rw[h0];simp)]
      ·push_cast -implicitDefEqProofs (disch:=omega)[hρ,aInt,h0];have e1:(dequeE ks seen l).1=takeE ks see x:=by rw[hF,dequeE,if_pos h0]
       have:dequesE ks sn deques=takeE ks see x:=by rw[hE0,dequesE,e1,if_pos h0]
       exact ⟨[],rfl,by rw[this]⟩
     ·push_cast -implicitDefEqProofs (disch:=omega)[hρ];refine hE' _ _ ?_;rw[Y90 hml,dequeE] at hF;push_cast -implicitDefEqProofs (disch:=omega)[hρ];rw[hF];exact ⟨rfl,hs1,hs0⟩
    ·rintro ε σ ⟨hρ,hz,hs1,hs0⟩;push_cast -implicitDefEqProofs (disch:=omega)[hρ];refine hN (k+1,(dequeE ks seen l).2) _ _ ?_ ek;push_cast -implicitDefEqProofs (disch:=omega)[hρ];refine ⟨by omega,hs1,hs0,?_⟩;rw[hE0,dequesE,if_neg (by rw[hz];simp)]
   ·push_cast -implicitDefEqProofs (disch:=omega)[hρ];refine hE _ _ ?_;rw[hE0,Y90 hlt,dequesE]
  ·rintro ε σ h;exact hN _ _ h
 rintro ε σ h;rw[h];push_cast -implicitDefEqProofs (disch:=omega);exact ⟨[],rfl,rfl⟩
def idleN (l:List Wk):Nat:=l.countP fun v=>decide (v.state=0)||decide (v.state=1)
theorem idleN_snoc (l:List Wk) (v:Wk):idleN (l++[v])=idleN l+(if v.state=0∨v.state=1 then 1 else 0):=by unfold idleN;rw[List.countP_append];by_cases h:v.state=0<;>by_cases h':v.state=1<;>simp[h,h']
theorem idleN_le (l:List Wk):idleN l≤l.length:=List.countP_le_length
def waitN (l:List (List Int)):Nat:=(l.map List.length).sum
theorem waitN_snoc (l:List (List Int)) (x:List Int):waitN (l++[x])=waitN l+x.length:=by simp[waitN]
theorem waitN_le {l:List (List Int)} {n:Nat} (h:∀x∈l,x.length≤n):waitN l≤n * l.length:=by
 induction l with
 | nil=>simp[waitN]
 | cons x l ih=>
  have h1:=h x (List.mem_cons_self ..);have h2:=ih fun y hy=>h y (List.mem_cons_of_mem _ hy);have e:waitN (x::l)=x.length+waitN l:=by simp[waitN]
  rw[e,List.length_cons,Nat.mul_succ];omega
theorem audit_Idle_a (l:List Wk) (hl:l.length≤1000000):FnP Tryz.prog 35 [aVws l] fun a=>a=aInt (idleN l):=by
 refine Qg Ye.2 mixed rfl (by simp[AV.pureL,aVws_p]) ?_;simp only[Ye,aVws,aSlN,qH];push_cast -implicitDefEqProofs (disch:=omega)
 refine Q73 (α:=Nat) (I:=fun k ε σ=>(ε 6=.sl l.length (l.flatMap aVw) .none∧ε 7=.v (.int .i64 l.length)∧ε 8=.v (.int .i64 k)∧ε 3=.v (.int .i64 (idleN (l.take k))))∧k≤l.length)
  (μ:=fun k=>l.length - k) (Q:=fun ε _=>ε 3=.v (.int .i64 (idleN l))) (x:=0) ?_ ?_ ?_
 ·push_cast -implicitDefEqProofs (disch:=omega)
  first|exact ⟨rfl,by omega⟩|omega
 ·rintro k ε σ N E ⟨hρ,hk⟩ hN hE;by_cases hlt:k < l.length
  ·obtain ⟨v,hv⟩:=Q14 hlt;have hd:=QQ XK hv;have hcl:∀m:List AV,cellsA (some 4) (aVw v++m)=some (.agg (aVw v)):=fun m=>by rw[Z08 _ _ (by simp[XK])];rfl
   have hb:=idleN_le (l.take k);rw[List.length_take] at hb;push_cast -implicitDefEqProofs (disch:=omega)[hρ,hd,hcl];refine Ql ?_;push_cast -implicitDefEqProofs (disch:=omega);refine Qd (XK v) ku (Qe _ _) ki ?_;have hset:setAtA [AV.v (.int .i64 0),AV.v (.int .i64 0),AV.v (.int .i64 0),AV.v (.int .i64 0)] 0 (aVw v)=aVw v:=rfl;have g0:(aVw v)[0]?=some (.v (.int .i64 v.state)):=rfl;have hs:=idleN_snoc (l.take k) v;rw[←Qt hv] at hs;by_cases h0:v.state=0
   ·rw[if_pos (.inl h0)] at hs;push_cast -implicitDefEqProofs (disch:=omega)[hset,hρ,g0,h0];refine hN (k+1) _ _ ?_ ke;push_cast -implicitDefEqProofs (disch:=omega)[hρ,hs];omega
   ·by_cases h1:v.state=1
    ·rw[if_pos (.inr h1)] at hs;push_cast -implicitDefEqProofs (disch:=omega)[hset,hρ,g0,h0,h1];refine hN (k+1) _ _ ?_ ke;push_cast -implicitDefEqProofs (disch:=omega)[hρ,hs];omega
    ·rw[if_neg ke] at hs;push_cast -implicitDefEqProofs (disch:=omega)[hset,hρ,g0,h0,h1];refine hN (k+1) _ _ ?_ ke;push_cast -implicitDefEqProofs (disch:=omega)[hρ,hs,Nat.add_zero];omega
  ·push_cast -implicitDefEqProofs (disch:=omega)[hρ];refine hE _ _ ?_;rw[List.take_of_length_le ke] at hρ;push_cast -implicitDefEqProofs (disch:=omega)[hρ]
 ·rintro ε σ hρ;push_cast -implicitDefEqProofs (disch:=omega)[hρ];exact ⟨[],rfl,rfl⟩
theorem Y35 (l:List (List Int)) (hl:l.length≤1000) (hl2:∀x∈l,x.length≤1000):FnP Tryz.prog 36 [aInts2 l] fun a=>a=aInt (waitN l):=by
 refine Qg XN.2 mixed rfl (by simp[AV.pureL,YJ]) ?_;simp only[XN,aInts2,aSl,qH];push_cast -implicitDefEqProofs (disch:=omega)
 refine Q73 (α:=Nat) (I:=fun k ε σ=>(ε 6=.sl l.length (l.map aInts) .none∧ε 7=.v (.int .i64 l.length)∧ε 8=.v (.int .i64 k)∧ε 3=.v (.int .i64 (waitN (l.take k))))∧k≤l.length)
  (μ:=fun k=>l.length - k) (Q:=fun ε _=>ε 3=.v (.int .i64 (waitN l))) (x:=0) ?_ ?_ ?_
 ·push_cast -implicitDefEqProofs (disch:=omega)
  first|exact ⟨rfl,by omega⟩|omega
 ·rintro k ε σ N E ⟨hρ,hk⟩ hN hE;by_cases hlt:k < l.length
  ·obtain ⟨x,hx⟩:=Q14 hlt;have hxl:=hl2 x (List.mem_of_getElem? hx);have hb:=waitN_le (l:=l.take k) (n:=1000) fun y hy=>hl2 y (List.mem_of_mem_take hy);rw[List.length_take] at hb;have hs:=waitN_snoc (l.take k) x;rw[←Qt hx] at hs;push_cast -implicitDefEqProofs (disch:=omega)[hρ,hx,aInts,aSl];refine hN (k+1) _ _ ?_ ke;push_cast -implicitDefEqProofs (disch:=omega)[hρ,hs];omega
  ·push_cast -implicitDefEqProofs (disch:=omega)[hρ];refine hE _ _ ?_;rw[List.take_of_length_le ke] at hρ;push_cast -implicitDefEqProofs (disch:=omega)[hρ]
 ·rintro ε σ hρ;push_cast -implicitDefEqProofs (disch:=omega)[hρ];exact ⟨[],rfl,rfl⟩
theorem JG:FnP Tryz.prog 34 [.v (.pointer none)] fun a=>a=aInt 7:=by refine Qg ZE.2 mixed rfl (by simp[AV.pureL,AV.pure]) ?_;simp only[ZE,qH];push_cast -implicitDefEqProofs;exact ⟨[],rfl,rfl⟩
def vk (s h:Int):Wk:={ wkNew 0 with state:=s,holds:=h }
theorem aVw_vk (s h:Int):aVw (vk s h)=[.v (.int .i64 s),.v (.int .i64 h),.v (.int .i64 0),.v (.int .i64 0)]:=rfl
set_option maxHeartbeats 1000000 in
theorem JH:FnP Tryz.prog 33 [] fun a=>a=aBool true:=by
 refine Qg Zw.2 mixed rfl rfl ?_;simp only[Zw,qH];have hf:fillA [AV.v (.int .i64 0),AV.v (.int .i64 0),AV.v (.int .i64 0),AV.v (.int .i64 0)] [(0,1),(1,1)] [AV.v (.int .i64 4),AV.v (.int .i64 1)]=some (aVw (vk 4 1)):=rfl;have hc:∀v,(AV.agg (aVw v)).cells=aVw v:=fun v=>rfl;push_cast -implicitDefEqProofs[hf];refine Qp (by simp[AV.cells,aVw]) ki ?_;push_cast -implicitDefEqProofs[hc];refine Qp oM ki ?_;push_cast -implicitDefEqProofs[hc];have e1:lookW [vk 4 1] [] [1]=0:=by decide
 have e2:lookW [vk 4 1] [[1]] [1]=10:=by decide
 have e3:lookW [vk 4 1] [] [3]=5:=by decide
 refine ZI [] [true,true,true] (Z52 [vk 4 1] [] [1] ki ki ki ki) (by simp[weak,Go.Kx.freeze,AV.res,AV.resL,aVws,aVw_vk,aInts,aInts2,aSl,aInt]) ?_;rintro a rfl;rw[e1];push_cast -implicitDefEqProofs[aInt,fzn];refine Qp oM ki ?_;push_cast -implicitDefEqProofs;refine Qp oM ki ?_;push_cast -implicitDefEqProofs;refine Qp oM ki ?_;push_cast -implicitDefEqProofs;refine ZI [] [true,true,true] (Z52 [vk 4 1] [[1]] [1] ki ki ki ki) (by simp[weak,Go.Kx.freeze,AV.res,AV.resL,aVws,aVw_vk,aInts,aInts2,aSl,aInt,AV.cells]) ?_;rintro a rfl;rw[e2];push_cast -implicitDefEqProofs[aInt,fzn];refine Qp oM ki ?_;push_cast -implicitDefEqProofs;refine ZI [] [true,true,true] (Z52 [vk 4 1] [] [3] ki ki ki ki) (by simp[weak,Go.Kx.freeze,AV.res,AV.resL,aVws,aVw_vk,aInts,aInts2,aSl,aInt]) ?_;rintro a rfl;rw[e3];have hf0:fillA [AV.v (.int .i64 0),AV.v (.int .i64 0),AV.v (.int .i64 0),AV.v (.int .i64 0)] [] []=some (aVw (vk 0 0)):=rfl;have hf4:fillA [AV.v (.int .i64 0),AV.v (.int .i64 0),AV.v (.int .i64 0),AV.v (.int .i64 0)] [(0,1)] [AV.v (.int .i64 4)]=some (aVw (vk 4 0)):=rfl;push_cast -implicitDefEqProofs[aInt,fzn,hf0,hf4];refine Qp (by simp[AV.cells,aVw]) ki ?_;push_cast -implicitDefEqProofs[hc];refine ZI [] [true] (audit_Idle_a [vk 0 0,vk 4 0] ki) (by simp[weak,Go.Kx.freeze,AV.res,AV.resL,aVws,aVw_vk]) ?_;rintro a rfl;have e4:idleN [vk 0 0,vk 4 0]=1:=by decide
 rw[e4];push_cast -implicitDefEqProofs[aInt,fzn];refine Qp oM ki ?_;push_cast -implicitDefEqProofs;refine Qp oM ki ?_;push_cast -implicitDefEqProofs;refine Qp oM ki ?_;push_cast -implicitDefEqProofs;refine ZI [] [true] (Y35 [[1,2],[3]] ki ki) (by simp[weak,Go.Kx.freeze,AV.res,AV.resL,aInts,aInts2,aSl,aInt,AV.cells,Value.cells]) ?_;rintro a rfl;have e5:waitN [[1,2],[3]]=3:=by decide
 rw[e5];push_cast -implicitDefEqProofs[aInt,fzn];refine Q5 JG ?_;push_cast -implicitDefEqProofs[aInt];exact ⟨[],rfl,rfl⟩
end Go.Proofs.YtelibaobkcokdaaGreat.Mx
