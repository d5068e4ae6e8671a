/- The machine's invariant: steps, part 4. -/
import Derived.Test.YtelibaobkcokdaaGreatTH2G32
namespace Go.Proofs.YtelibaobkcokdaaGreat.Mx.In
set_option linter.unusedSectionVars false
set_option linter.unusedVariables false
set_option linter.unusedSimpArgs false
open Go Go.Kx Go.Proofs Go.Proofs.YtelibaobkcokdaaGreat Go.Proofs.YtelibaobkcokdaaGreat.Mx
set_option linter.unusedSectionVars false
variable {T:Int} {F W:Nat} {sI:Int→Int} {tk:Int→Int→Int→Int} {r:RC} {P:Int→Pc} {cn:Int→Int} {rg:Nat→Int} {pc:Int→Int→Int}
set_option maxHeartbeats 40000000 in
theorem CN.finLast (h:CN T F W sI tk r P cn rg pc) {k:Nat} (hk:(k:Int) < (W:Int)) (h1:r.st k=17) (hJ:r.J (r.ot k)=1):
  CN T F W sI tk { r with st:=upd r.st k (18),ho:=upd r.ho k (r.ot k),J:=updI r.J (r.ot k) (r.J (r.ot k) - 1) } (updI P (r.ot k) (.own k .jn)) cn rg pc:=by
 obtain ⟨p0,p1⟩:=h.c4 k hk h1;have p2:=h.h2 (r.ot k);have p3:=h.f0b (r.ot k);exact {}
set_option maxHeartbeats 40000000 in
theorem CN.finNot (h:CN T F W sI tk r P cn rg pc) {k:Nat} (hk:(k:Int) < (W:Int)) (h1:r.st k=17):
  CN T F W sI tk { r with st:=upd r.st k (2),J:=updI r.J (r.ot k) (r.J (r.ot k) - 1) } (updI P (r.ot k) (.fin)) cn rg pc:=by
 obtain ⟨p0,p1⟩:=h.c4 k hk h1;have p2:=h.h2 (r.ot k);have p3:=h.c2 k hk eE;exact {}
set_option maxHeartbeats 40000000 in
theorem CN.complete (h:CN T F W sI tk r P cn rg pc) {k:Nat} (hk:(k:Int) < (W:Int)) (h1:r.st k=18) {p:Int} (hl:(r.fr (r.ho k)).parent=p) (hz:(∀c,P c≠.free→(r.fr c).kind≠3→(r.fr c).parent≠r.ho k)∧∀j:Nat,(j:Int) < W→r.st j=7→r.ot j≠r.ho k):
  CN T F W sI tk { r with st:=upd r.st k (4),ho:=upd r.ho k (p),us:=updI r.us (r.ho k) false } (updI (updI P (r.ho k) (.free)) p (.own k .hold)) cn rg pc:=by
 have e0:r.ho k≠0:=h.c3 k hk eE eE;have p0:P (r.ho k)=.own k .jn:=by rw[h.c1 k hk e0,h1];simp[ht]
 have p1:=h.c16c k hk;have p2:=h.f3 (r.ho k);have p3:=h.g7 _ _ p0;have p5:=h.f0b p;rw[hl] at p2
 exact {
  f2:=by (try dsimp only);have a0:=h.f2;grind (splits:=40)}
set_option maxHeartbeats 40000000 in
theorem CN.loop21 (h:CN T F W sI tk r P cn rg pc) {k:Nat} (hk:(k:Int) < (W:Int)) (h1:r.st k=19) (hn:0≤(r.fr (r.ho k)).started - T) (hfi:r.fin (r.fr (r.ho k)).serial ((r.fr (r.ho k)).started - T)=true) (hd:∀c,P c≠.free→(r.fr c).kind=2→(r.fr c).parent=r.ho k→(r.fr c).index=(r.fr (r.ho k)).started - T→isLt (P c)=true):
  CN T F W sI tk { r with st:=upd r.st k (21) } P cn rg pc:=by
 have e0:r.ho k≠0:=h.c3 k hk eE eE;have p0:P (r.ho k)=.own k .hold:=by rw[h.c1 k hk e0,h1];simp[ht]
 have p1:=h.c16c k hk
 exact {
  c18:=by (try dsimp only);have a0:=h.c18;have a1:=h.f8;grind (splits:=40)}
set_option maxHeartbeats 40000000 in
theorem CN.loopNap (h:CN T F W sI tk r P cn rg pc) {k:Nat} (hk:(k:Int) < (W:Int)) (h1:r.st k=19) (hn:0≤(r.fr (r.ho k)).started - T) (hT1:1≤T) (hS:r.S < 1000000):
  CN T F W sI tk { r with st:=upd r.st k (20),ho:=upd r.ho k (0),ot:=upd r.ot k (r.ho k),np:=upd r.np k (⟨⟨r.ho k,(r.fr (r.ho k)).serial⟩,(r.fr (r.ho k)).started - T,0,false,false,false⟩) } (updI P (r.ho k) (.own k .oth)) cn rg pc:=by
 have e0:r.ho k≠0:=h.c3 k hk eE eE;have p0:P (r.ho k)=.own k .hold:=by rw[h.c1 k hk e0,h1];simp[ht]
 have p1:=h.c16c k hk;have p2:=h.f3 (r.ho k);have p3:=h.f5 (r.ho k);exact {}
set_option maxHeartbeats 40000000 in
theorem CN.nap0 (h:CN T F W sI tk r P cn rg pc) {k:Nat} (hk:(k:Int) < (W:Int)) (h1:r.st k=20) (hn:(r.np k).at_=0) (v:Tw) (hv:v.r=(r.np k).r∧v.it=(r.np k).it∧v.at_=1):
  CN T F W sI tk { r with np:=upd r.np k (v),nap:=updI r.nap (r.np k).r.id (tk (r.np k).r.serial (r.np k).it 0) } (updI P (r.ot k) (.nap)) cn rg pc:=by
 have p1:=h.c6 k hk h1;have p2:=h.c6b k hk h1 hn;exact {}
set_option maxHeartbeats 40000000 in
theorem CN.nap1 (h:CN T F W sI tk r P cn rg pc) {k:Nat} (hk:(k:Int) < (W:Int)) (h1:r.st k=20) (hn:(r.np k).at_=1) (v:Tw) (hv:v.r=(r.np k).r∧v.it=(r.np k).it∧v.at_=2) (hfi:r.fin (r.np k).r.serial (r.np k).it=true) (hd:P (r.ot k)≠.free→(r.fr (r.ot k)).kind=3→(r.fr (r.ot k)).serial=(r.np k).r.serial→∀c,P c≠.free→(r.fr c).kind=2→(r.fr c).parent=r.ot k→(r.fr c).index=(r.np k).it→isLt (P c)=true):
  CN T F W sI tk { r with np:=upd r.np k (v) } P cn rg pc:=by
 have p1:=h.c6 k hk h1;exact {}
set_option maxHeartbeats 40000000 in
theorem CN.napGo (h:CN T F W sI tk r P cn rg pc) {k:Nat} (hk:(k:Int) < (W:Int)) (h1:r.st k=20) (hn:(r.np k).at_≠0):
  CN T F W sI tk { r with st:=upd r.st k (2) } P cn rg pc:=by
 have p3:=h.c2 k hk eE;exact {}
set_option maxHeartbeats 40000000 in
theorem CN.nap2 (h:CN T F W sI tk r P cn rg pc) {k:Nat} (hk:(k:Int) < (W:Int)) (h1:r.st k=20) (hn:(r.np k).at_=2) (hp:P (r.ot k)=.nap) (hs:(r.fr (r.ot k)).serial=(r.np k).r.serial) (hx:(r.fr (r.ot k)).started - T=(r.np k).it):
  CN T F W sI tk { r with st:=upd r.st k (21),ho:=upd r.ho k (r.ot k),nap:=updI r.nap (r.ot k) 0 } (updI P (r.ot k) (.own k .hold)) cn rg pc:=by
 have p1:=h.c6 k hk h1;have p2:=h.g2 _ hp;have p3:=h.c6c k hk h1 hn
 exact {
  hv:=by
   exact {
    v4:=by
     intro j hj e;by_cases c:j=k
     ·subst c;right;have e1:upd r.ho j (r.ot j) j=r.ot j:=if_pos rfl;dsimp only;rw[e1,hs,hx];exact h.hv.v3 j hk h1 hn
     ·have e1:upd r.ho k (r.ot k) j=r.ho j:=if_neg c;have e2:upd r.st k 21 j=r.st j:=if_neg c;dsimp only at e ⊢;rw[e2] at e;rw[e1];exact h.hv.v4 j hj e }
  c18:=by (try dsimp only);have a0:=h.c18;have a1:=h.f8;grind (splits:=40)}
set_option maxHeartbeats 40000000 in
theorem CN.start (h:CN T F W sI tk r P cn rg pc) {k:Nat} (hk:(k:Int) < (W:Int)) (h1:r.st k=19∨r.st k=21) {id:Int} (hf:P id=.free) (hi:0 < id) (hI:∀c,P c≠.free→(r.fr c).kind=2→(r.fr c).parent=r.ho k→isLt (P c)=false→(r.fr (r.ho k)).started - T < (r.fr c).index) (hT1:1≤T) (hb:(r.fr (r.ho k)).started+1 < 1000000) (hz:∀c,P c≠.free→(r.fr c).kind=2→(r.fr c).parent=r.ho k→isLt (P c)=false→(r.fr c).stage≠0) (hT0:r.dn (r.ho k) (sI (r.fr (r.ho k)).started)≠tk (r.fr (r.ho k)).serial (r.fr (r.ho k)).started 0) (hF:id≤F) (hL:r.st k=19→(r.fr (r.ho k)).started - T < 0):
  CN T F W sI tk { r with st:=upd r.st k (22),ot:=upd r.ot k (id),us:=updI r.us id true,fr:=updI (updI r.fr (r.ho k) { r.fr (r.ho k) with started:=(r.fr (r.ho k)).started+1 }) id ⟨2,r.ho k,false,(r.fr (r.ho k)).started,0,0,0⟩,J:=updI r.J id 1,nap:=updI r.nap id 0,sw:=updZ r.sw id,lk:=updZ r.lk id,dn:=updZ r.dn id } (updI P id (.own k .mk)) cn rg pc:=by
 have e0:r.ho k≠0:=h.c3 k hk (by rcases h1 with h1|h1<;>rw[h1]<;>decide) ka;have p0:P (r.ho k)=.own k .hold:=by rw[h.c1 k hk e0];rcases h1 with h1|h1<;>rw[h1]<;>simp[ht]
 have p1:=h.c16c k hk;have p2:r.ho k≠id:=fun e=>by rw[e,hf] at p0;cases p0
 have p3:=h.f3 (r.ho k);have p4:=h.f5 (r.ho k);have yf2:=h.f2;have yc1:=h.c1;have yc3:=h.c3
 exact {
  hv:=by
   have nf:P (r.ho k)≠.free:=by rw[p0];exact fun e=>by cases e
   have crz:∀j:Nat,cr (r.st j)=true→emp (r.st j)=false∧r.st j≠3:=fun j e=>by rcases of_decide_eq_true e with e|e|e<;>rw[e]<;>exact ⟨rfl,by decide⟩
   have nz:∀j:Nat,(j:Int) < W→cr (r.st j)=true→P (r.ho j)≠.free:=fun j hj e=>by rw[h.c1 j hj (h.c3 j hj (crz j e).1 (crz j e).2)];exact fun e=>by cases e
   have ci:∀j:Nat,(j:Int) < W→cr (r.st j)=true→r.ho j=r.ho k→j=k:=fun j hj e x=>by have:=h.c1 j hj (h.c3 j hj (crz j e).1 (crz j e).2);rw[x,p0] at this;injection this with y;exact y.symm
   have hcr:cr (r.st k)=false:=by rcases h1 with e|e<;>rw[e]<;>rfl
   have nc:∀j:Nat,(j:Int) < W→cr (r.st j)=true→r.ho j≠r.ho k:=fun j hj e x=>by rw[ci j hj e x,hcr] at e;cases e
   have kd:(r.fr (r.ho k)).kind=3:=p1 ka
   have g5:(r.fr (r.ho k)).started - T < 0∨r.fin (r.fr (r.ho k)).serial ((r.fr (r.ho k)).started - T)=true:=by
    rcases h1 with e|e
    ·exact .inl (hL e)
    ·exact h.hv.v4 k hk e
   have g7:=h.hv.v7 _ nf kd nc;have g9:=h.hv.v9 _ nf kd (fun c e=>by rw[p0] at e;cases e) nc;have ex:∀(v w:Fe) (x:Int),P x≠.free→x≠r.ho k→updI (updI r.fr (r.ho k) v) id w x=r.fr x:=fun v w x a b=>by have:x≠id:=fun e=>a (by rw[e];exact hf);unfold updI;rw[if_neg this,if_neg b]
   have el:∀(v w:Fe),updI (updI r.fr (r.ho k) v) id w (r.ho k)=v:=fun v w=>by unfold updI;rw[if_neg p2,if_pos rfl]
   have es:upd r.st k 22 k=22:=if_pos rfl;have en:∀j,j≠k→upd r.st k 22 j=r.st j:=fun j c=>if_neg c;have nk:∀j:Nat,cr (r.st j)=true→j≠k:=fun j e c=>by rw[c,hcr] at e;cases e
   exact {
    v5:=by
     intro j hj e;dsimp only at e ⊢;by_cases c:j=k
     ·subst c;rw[el];dsimp only;rw[show (r.fr (r.ho j)).started+1 - 1 - T=(r.fr (r.ho j)).started - T by omega];exact g5
     ·rw[en j c] at e;rw[ex _ _ _ (nz j hj e) (nc j hj e)];exact h.hv.v5 j hj e
    v6:=by
     intro j hj e;dsimp only at e ⊢;by_cases c:j=k
     ·subst c;rw[el];dsimp only;rw[show (r.fr (r.ho j)).started+1 - 1=(r.fr (r.ho j)).started by omega,show (r.fr (r.ho j)).started+1 - 2=(r.fr (r.ho j)).started - 1 by omega];exact ⟨g7,g9⟩
     ·rw[en j c] at e;rw[ex _ _ _ (nz j hj e) (nc j hj e)];exact h.hv.v6 j hj e
    v7:=by
     intro x x1 x2 x3;dsimp only at x2 x3 ⊢;have a1:x≠r.ho k:=fun e=>x3 k hk (by rw[es];rfl) e.symm;have a2:x≠id:=fun e=>by rw[e] at x2;unfold updI at x2;rw[if_pos rfl] at x2;cases x2
     have a3:P x≠.free:=fun e=>x1 (Eq.trans (if_neg a2) e);rw[ex _ _ x a3 a1] at x2 ⊢;exact h.hv.v7 x a3 x2 fun j hj e=>x3 j hj (by rw[en j (nk j e)];exact e)
    v9:=by
     intro x x1 x2 x4 x3;dsimp only at x2 x3 ⊢;have a1:x≠r.ho k:=fun e=>x3 k hk (by rw[es];rfl) e.symm;have a2:x≠id:=fun e=>by rw[e] at x2;unfold updI at x2;rw[if_pos rfl] at x2;cases x2
     have a3:P x≠.free:=fun e=>x1 (Eq.trans (if_neg a2) e);rw[ex _ _ x a3 a1] at x2 ⊢;exact h.hv.v9 x a3 x2 (fun c e=>x4 c (Eq.trans (if_neg a2) e)) fun j hj e=>x3 j hj (by rw[en j (nk j e)];exact e) }
  c5:=by (try dsimp only);clear yf2 yc1 yc3;clear hz hT0 hI;have a0:=h.c5;have a1:=h.f0b;have a2:=h.c1;have a3:=h.f2;have a4:=h.c3;grind (splits:=40)
  c5c:=by (try dsimp only);clear yf2 yc1 yc3;clear hz hT0 hI;have a0:=h.c5c;have a1:=h.c5d;have a2:=h.c1;have a3:=h.f2;have a4:=h.c3;grind (splits:=40)
  c5d:=by (try dsimp only);clear yf2 yc1 yc3;clear hz hT0 hI;have a0:=h.c5d;have a1:=h.c5e;have a2:=h.c1;have a3:=h.f2;have a4:=h.c3;grind (splits:=40)
  c6c:=by (try dsimp only);clear yf2 yc1 yc3;clear hz hT0 hI;have a0:=h.c6c;have a1:=h.c6d;have a2:=h.c1;have a3:=h.f2;have a4:=h.c3;grind (splits:=40)
  c6d:=by (try dsimp only);clear yf2 yc1 yc3;clear hz hT0 hI;have a0:=h.c6d;have a1:=h.c6;have a2:=h.c1;have a3:=h.f2;have a4:=h.c3;grind (splits:=40)
  c7c:=by (try dsimp only);clear yf2 yc1 yc3;clear hz hT0 hI;have a0:=h.c7c;have a1:=h.c7b;have a2:=h.c1;have a3:=h.f2;have a4:=h.c3;grind (splits:=40)
  c11:=by (try dsimp only);clear yf2 yc1 yc3;clear hz hT0 hI;have a0:=h.c11;have a1:=h.c16b;have a2:=h.c1;have a3:=h.f2;have a4:=h.c3;grind (splits:=40)
  c14:=by (try dsimp only);clear yf2 yc1 yc3;clear hz hT0 hI;have a0:=h.c14;have a1:=h.c16b;have a2:=h.c1;have a3:=h.f2;have a4:=h.c3;grind (splits:=40)
  c18:=by (try dsimp only);clear yf2 yc1 yc3;clear hz hT0;have a0:=h.c18;have a1:=h.c1;have a2:=h.f2;have a3:=h.c3;grind (splits:=40)
  f3:=by (try dsimp only);clear yf2 yc1 yc3;clear hz hT0 hI;have a0:=h.f3;have a1:=h.f4;have a2:=h.s0;have a3:=h.c1;have a4:=h.f2;grind (splits:=40)
  f4:=by (try dsimp only);clear yf2 yc1 yc3;clear hz hT0 hI;have a0:=h.f4;have a1:=h.f3;have a2:=h.c1;have a3:=h.f2;grind (splits:=40)
  f6:=by (try dsimp only);clear yf2 yc1 yc3;clear hz hT0 hI;have a0:=h.f6;have a1:=h.f2;grind (splits:=40)
  f7:=by (try dsimp only);clear yf2 yc1 yc3;clear hz hT0 hI;clear hk h1 p1;have a0:=h.f7;have a1:=h.f3;have a2:=h.s0;grind (splits:=40)
  f8:=by (try dsimp only);clear yf2 yc1 yc3;clear hz hT0;have a0:=h.f8;have a1:=h.c1;have a2:=h.f2;grind (splits:=40)
  f9:=by (try dsimp only);clear yf2 yc1 yc3;clear hT0 hI;have a0:=h.f9;have a1:=h.c1;have a2:=h.f2;grind (splits:=40)
  h1:=by (try dsimp only);clear yf2 yc1 yc3;clear hz hT0 hI;have a0:=h.h1;have a1:=h.h3;have a2:=h.c1;have a3:=h.f2;grind (splits:=40)
  h2:=by (try dsimp only);clear yf2 yc1 yc3;clear hz hT0 hI;have a0:=h.h2;have a1:=h.h3;have a2:=h.c1;have a3:=h.f2;grind (splits:=40)
  w1:=by (try dsimp only);clear yf2 yc1 yc3;clear hz hT0 hI;have a0:=h.w1;have a1:=h.g1;have a2:=h.c1;have a3:=h.f2;grind (splits:=40)
  w3:=by (try dsimp only);clear yf2 yc1 yc3;clear hz;have a0:=h.w3;have a1:=h.c1;have a2:=h.f2;grind (splits:=40)
  w3b:=by (try dsimp only);clear yf2 yc1 yc3;clear hz;have a0:=h.w3b;have a1:=h.c1;have a2:=h.f2;grind (splits:=40)}
set_option maxHeartbeats 40000000 in
theorem CN.count (h:CN T F W sI tk r P cn rg pc) {k:Nat} (hk:(k:Int) < (W:Int)) (h1:r.st k=22):
  CN T F W sI tk { r with st:=upd r.st k (23) } P cn rg pc:=by
 have p1:=h.c7b k hk;exact {}
set_option maxHeartbeats 40000000 in
theorem CN.name (h:CN T F W sI tk r P cn rg pc) {k:Nat} (hk:(k:Int) < (W:Int)) (h1:r.st k=23) (hI:∀a b,0≤a→a≤b→b - a≤T→sI a=sI b→a=b):
  CN T F W sI tk { r with st:=upd r.st k (24),lk:=upd2 r.lk (r.ho k) (sI (r.fr (r.ot k)).index) (r.ot k) } P cn rg pc:=by
 have e0:r.ho k≠0:=h.c3 k hk eE eE;have p0:P (r.ho k)=.own k .hold:=by rw[h.c1 k hk e0,h1];simp[ht]
 obtain ⟨p1,p2,p3,p4,p5,p6,p7⟩:=h.c7b k hk (.inr (.inl h1));have p8:=h.f2 (r.ot k)
 exact {
  c7c:=by (try dsimp only);have a0:=h.c7c;have a1:=h.c1;have a2:=h.c3;grind (splits:=40)
  w2:=by (try dsimp only);have a0:=h.w2;have a1:=h.f2;have a2:=h.f8;have a3:=h.f6;grind (splits:=40)}
set_option maxHeartbeats 40000000 in
theorem CN.joins (h:CN T F W sI tk r P cn rg pc) {k:Nat} (hk:(k:Int) < (W:Int)) (h1:r.st k=24):
  CN T F W sI tk { r with st:=upd r.st k (4),ho:=upd r.ho k (r.ot k),J:=updI r.J (r.ho k) (r.J (r.ho k)+1),ns:=updI r.ns (r.fr (r.fr (r.ot k)).parent).serial (r.ns (r.fr (r.fr (r.ot k)).parent).serial+1),okS:=r.okS&&(decide (r.ns (r.fr (r.fr (r.ot k)).parent).serial=(r.fr (r.ot k)).index)&&(decide ((r.fr (r.ot k)).index=0)||r.pas (r.fr (r.fr (r.ot k)).parent).serial ((r.fr (r.ot k)).index - 1))&&(decide ((r.fr (r.ot k)).index < T)||r.fin (r.fr (r.fr (r.ot k)).parent).serial ((r.fr (r.ot k)).index - T))) } (updI (updI P (r.ho k) (.below (r.ot k))) (r.ot k) (.own k .hold)) (updI cn (r.ho k) (cn (r.ho k)+1)) rg pc:=by
 have e0:r.ho k≠0:=h.c3 k hk eE eE;have p0:P (r.ho k)=.own k .hold:=by rw[h.c1 k hk e0,h1];simp[ht]
 obtain ⟨p1,p2,p3,p4,p5,p6,p7⟩:=h.c7b k hk (.inr (.inr h1));have p8:=h.c16c k hk;have p9:=h.c7c k hk h1
 exact {
  hv:=by
   have nf:P (r.ho k)≠.free:=by rw[p0];exact fun e=>by cases e
   have crz:∀j:Nat,cr (r.st j)=true→emp (r.st j)=false∧r.st j≠3:=fun j e=>by rcases of_decide_eq_true e with e|e|e<;>rw[e]<;>exact ⟨rfl,by decide⟩
   have nz:∀j:Nat,(j:Int) < W→cr (r.st j)=true→P (r.ho j)≠.free:=fun j hj e=>by rw[h.c1 j hj (h.c3 j hj (crz j e).1 (crz j e).2)];exact fun e=>by cases e
   have ci:∀j:Nat,(j:Int) < W→cr (r.st j)=true→r.ho j=r.ho k→j=k:=fun j hj e x=>by have:=h.c1 j hj (h.c3 j hj (crz j e).1 (crz j e).2);rw[x,p0] at this;injection this with y;exact y.symm
   have kd:(r.fr (r.ho k)).kind=3:=p8 ka;have eS:(r.fr (r.fr (r.ot k)).parent).serial=(r.fr (r.ho k)).serial:=by rw[p4]
   have g6:=h.hv.v6 k hk (by rw[h1];rfl);have g5:=h.hv.v5 k hk (by rw[h1];rfl);have g3:=h.f3 _ nf kd;have ne:∀x,P x≠.free→(r.fr x).kind=3→x≠r.ho k→(r.fr x).serial≠(r.fr (r.ho k)).serial:=fun x a b c e=>c (h.f7 x _ a nf b kd e);have en:∀j,j≠k→upd r.st k 4 j=r.st j:=fun j c=>if_neg c;have eh:∀j,j≠k→upd r.ho k (r.ot k) j=r.ho j:=fun j c=>if_neg c;have ek:∀j,cr (upd r.st k 4 j)=true→j≠k:=fun j e c=>by have:upd r.st k 4 j=4:=if_pos c;rw[this] at e;cases e
   have xc:∀x,(r.fr x).kind=3→x≠r.ot k:=fun x a e=>by rw[e,p2] at a;cases a
   have xp:∀x,(r.fr x).kind=3→x≠r.ho k→updI (updI P (r.ho k) (.below (r.ot k))) (r.ot k) (.own k .hold) x=P x:=fun x a b=>by unfold updI;rw[if_neg (xc x a),if_neg b]
   have un:∀y,y≠(r.fr (r.ho k)).serial→updI r.ns (r.fr (r.fr (r.ot k)).parent).serial (r.ns (r.fr (r.fr (r.ot k)).parent).serial+1) y=r.ns y:=fun y a=>by unfold updI;rw[eS,if_neg a]
   exact {
    v6:=by intro j hj e;dsimp only at e ⊢;have c:=ek j e;rw[en j c] at e;rw[eh j c,un _ (ne _ (nz j hj e) (h.c16c j hj (by have:=of_decide_eq_true e;omega)) fun x=>c (ci j hj e x))];exact h.hv.v6 j hj e
    v7:=by
     intro x x1 x2 x3;dsimp only at x2 x3 ⊢;by_cases c:x=r.ho k
     ·subst c;unfold updI;rw[eS,if_pos rfl,g6.1];omega
     ·rw[xp x x2 c] at x1;rw[un _ (ne x x1 x2 c)]
      exact h.hv.v7 x x1 x2 fun j hj e=>by
       by_cases d:j=k
       ·rw[d];exact fun e=>c e.symm
       ·have:=x3 j hj (by rw[en j d];exact e);rw[eh j d] at this;exact this
    v8:=by intro y hy;dsimp only at hy ⊢;rw[un y ka];exact h.hv.v8 y hy
    v9:=by
     intro x x1 x2 x4 x3;dsimp only at x2 x3 ⊢;by_cases c:x=r.ho k
     ·refine absurd ?_ (x4 (r.ot k));subst c;unfold updI;rw[if_neg (xc _ kd),if_pos rfl]
     ·rw[xp x x2 c] at x1;refine h.hv.v9 x x1 x2 (fun a e=>x4 a (by rw[xp x x2 c];exact e)) fun j hj e=>?_;by_cases d:j=k
      ·rw[d];exact fun e=>c e.symm
      ·have:=x3 j hj (by rw[en j d];exact e);rw[eh j d] at this;exact this
    vk:=by
     dsimp only;rw[eS,p6,h.hv.vk,g6.1,decide_eq_true rfl,Bool.true_and,Bool.true_and,Bool.and_eq_true,Bool.or_eq_true,Bool.or_eq_true,decide_eq_true_eq,decide_eq_true_eq];refine ⟨?_,?_⟩
     ·rw[show (r.fr (r.ho k)).started - 1 - 1=(r.fr (r.ho k)).started - 2 by omega];exact g6.2
     ·rcases g5 with g|g
      ·exact .inl ka
      ·exact .inr g }
  ni:=by have z0:=h.c1 k hk;have z1:=h.c3 k hk;refine h.ni.id1 (a:=(r.ot k)) (h.ni.b _ (by grind)) (fun i hi=>by (grind (splits:=40))) (fun j=>by (grind (splits:=40))) (fun i=>by (have a0:=h.f0b;have a1:=h.ni.b;grind (splits:=40))) (fun p hp=>by (grind (splits:=40)))}
section
variable {q:Pm} {m:Mc} {k:Nat} {n:Int} {P:Int→Pc} {H T:Nat→Int} {cl:Nat→Nat} {cn:Int→Int} {rg:Nat→Int} {pc:Int→Int→Int}
theorem Z00 (s:Cs):s.setW s.ws=s:=rfl
theorem Be.tokAt (h:Be q m k n P H T cl cn rg pc) {l i ser it st:Int} (e:(aRC q m.c m.l).sw l i=tokF ser it st) (h1:1≤ser) (h2:ser < 1000000) (h3:0≤it∧it < 1000000) (h4:0≤st∧st < 1048576):
  P (pc l i)=.parked∧(m.c.at (pc l i)).parent=l∧(m.c.at (pc l i)).kind=2∧sR q (m.c.at (pc l i)).index=i∧(m.c.at l).serial=ser∧(m.c.at (pc l i)).index=it:=by
 obtain ⟨a1,a2,a3,a4⟩:=h.ci.w1 l i (by rw[e];exact Y16 h1);have a2':(m.c.at (pc l i)).parent=l:=a2;have a5:(m.c.at (pc l i)).kind=2:=h.ci.g1 _ a1;have hp:P (pc l i)≠.free:=by rw[a1];exact fun e=>by cases e
 have a6:=h.idx hp a5;have a7:=h.ci.f3 (m.c.at (pc l i)).parent a6.1 a6.2.1;have a8:=h.ci.f5 _ hp;have hn:=h.nn;have hS:=h.sr;have a9:(1≤(m.c.at (m.c.at (pc l i)).parent).serial∧(m.c.at (m.c.at (pc l i)).parent).serial≤m.c.serial):=a7.2.2.1;rw[a2'] at a9;have b1:0≤(m.c.at (pc l i)).stage∧(m.c.at (pc l i)).stage < 1048576:=⟨a8.1,a8.2.1⟩;have a4':(aRC q m.c m.l).sw l i=tokF (m.c.at l).serial (m.c.at (pc l i)).index (m.c.at (pc l i)).stage:=a4;rw[e] at a4';have b2:=Jh ka h2 h3.1 h3.2 h4.1 h4.2 ka ka ka ka b1.1 b1.2 a4';exact ⟨a1,a2',a5,a3,b2.1.symm,b2.2.1.symm⟩
theorem Be.chkEnds (h:Be q m k n P H T cl cn rg pc) (hs:(wkAt m.l k).state=11) (t':Rt) (b:Bool) (id:Int) (hb:b=true→((aRC q m.c m.l).rt k).next=2) (hi:id=if b=true then rg k else 0):
  Af q m k n (if (wkAt m.l k).gWhy=2 then ({ wkAt m.l k with right:=some t',eRight:=id,wake:=some (wakeNew (ringF m.c (m.c.at (wkAt m.l k).holds).parent) (m.c.at (wkAt m.l k).holds).index (!(wkAt m.l k).eHeld)),state:=15 },m.c)
   else if b=true then (({ wkAt m.l k with right:=some t' }:Wk).pushes id (if (wkAt m.l k).gWhy=1 then .stop else .decide),m.c)
   else if (wkAt m.l k).gWhy=1 then stopF ({ wkAt m.l k with right:=some t' },m.c) else decideF q ({ wkAt m.l k with right:=some t' },m.c)):=by
 have h11:(aRC q m.c m.l).st k=11:=hs;have hp:=h.nf eI eB;split
 ·rename_i c;refine h.sA 15 (h.ci.chkEnd h.kW h11 c b hb) ?_ rfl (hP0 P) Len.rf h.lim ka ko ⟨fun _ e=>(by cases e),fun _ e=>(by cases e),fun t _ ht=>(by cases ht;exact ⟨rfl,rfl⟩),fun _ e=>(by cases e)⟩;dsimp only;rw[Qq h.kl,hi];exact agp
 rename_i c;have c':(aRC q m.c m.l).gy k≠2:=c;split
 ·rename_i c2;have hn2:=hb c2;rw[if_pos c2] at hi;subst hi;have c11:=h.ci.c11b k h.kW h11 hn2;have hwk:∀y:Int,wk2 (if y=1 then Th.stop else .decide)=true:=fun y=>by split<;>rfl
  refine h.sU (id:=rg k) (h.ci.chkPush h.kW h11 hn2 c' _ (hwk (wkAt m.l k).gWhy)) ?_ rfl (hPu (hP0 P) _ (by rw[c11.1];rfl)) Len.rf h.lim ka rfl (hgs:=fun _=>h.gs (at_of (.inr (.inr ⟨hs,c⟩))));dsimp only[Wk.pushes];rw[Qq h.kl];exact agp
 have hB:=h.sB (y:=({ wkAt m.l k with right:=some t',state:=12 },m.c)) 12 (h.ci.after h.kW (.inr (.inr ⟨h11,c'⟩)) 12 (.inr rfl)) (by dsimp only;rw[Qq h.kl];exact agp) rfl (hP0 P) Len.rf ⟨h.sr,h.sd⟩ ka ka h.g.ar (hgs:=fun _=>h.gs (at_of (.inr (.inr ⟨hs,c⟩))));have ea:=h.at_ (y:=({ wkAt m.l k with right:=some t',state:=12 },m.c));split
 ·have:=hB.stop (by rw[ea];exact .inl rfl);refine h.on ?_ (y:=({ wkAt m.l k with right:=some t',state:=12 },m.c));rw[ea] at this;exact this
 ·have:=hB.decide (by rw[ea];exact .inr (.inl rfl));refine h.on ?_ (y:=({ wkAt m.l k with right:=some t',state:=12 },m.c));rw[ea] at this;exact this
theorem Be.check (h:Be q m k n P H T cl cn rg pc) (hs:(wkAt m.l k).state=11):Af q m k n (checkF2 q (wkAt m.l k,m.c)):=by
 have h11:(aRC q m.c m.l).st k=11:=hs;have hp:=h.nf eI eB;obtain ⟨t,et⟩:=h.ok.right hs;have ert:(aRC q m.c m.l).rt k=t:=by show (wkAt m.l k).right.getD rt0=t;rw[et];rfl
 obtain ⟨g1,g2⟩:=h.vr.1 t hs et;have hk:=h.ci.c16b k h.kW (.inr (.inr (.inl h11)));have hx:=h.idx hp hk.1;have hc:=h.ci.c11 k h.kW h11;rw[ert] at hc;obtain ⟨d1,d2,d3,d4,d5,d6⟩:=hc;have d1':t.r.id=(m.c.at (wkAt m.l k).holds).parent:=d1;have d2':t.r.serial=(m.c.at (m.c.at (wkAt m.l k).holds).parent).serial:=d2;have d3':t.it=(m.c.at (wkAt m.l k).holds).index+1:=d3;have hpl:P t.r.id≠.free:=by rw[d1'];exact hx.1
 have hi:=h.inF hpl;have hn:=h.nn;have hS:=h.sr;have hser:=(h.ci.f3 _ hx.1 hx.2.1).2.2.1;have hser':1≤t.r.serial∧t.r.serial≤m.c.serial:=by rw[d2'];exact hser
 have hnone:∀t':Rt,t'.next=3→t'.got=false→t'.frame=0→rtStep q t m.c.ws=(t',m.c.ws)→Af q m k n (checkF2 q (wkAt m.l k,m.c)):=by intro t' e1 e2 e3 e4;have:=h.chkEnds hs t' false 0 (fun e=>by cases e) rfl;unfold checkF2;dsimp only;rw[et];dsimp only;simp only[e4];rw[e1,e2,e3,Z00];exact this
 rcases d4 with d4|d4|d4
 ·
  by_cases c:(t.r.may (ldW m.c.ws (q.word t.r.id t.it 1)) t.it t.counter).2=true
  ·have e4:rtStep q t m.c.ws=({ t with stage:=(t.r.may (ldW m.c.ws (q.word t.r.id t.it 1)) t.it t.counter).1,next:=1 },m.c.ws):=by unfold rtStep goesN;rw[if_pos d4,c];rfl
   have hv:0≤(t.r.may (ldW m.c.ws (q.word t.r.id t.it 1)) t.it t.counter).1∧(t.r.may (ldW m.c.ws (q.word t.r.id t.it 1)) t.it t.counter).1 < 1048576:=by
    unfold Rg.may;split
    ·unfold tokStage wholeT;dsimp only;omega
    ·dsimp only;omega
   generalize (t.r.may (ldW m.c.ws (q.word t.r.id t.it 1)) t.it t.counter).1=v at e4 hv;have d4':((aRC q m.c m.l).rt k).next=0:=by rw[ert];exact d4
   unfold checkF2;dsimp only;rw[et];dsimp only;simp only[e4];rw[Z00];refine h.sA 11 (h.ci.chk0 h.kW h11 d4' v hv) ?_ rfl (hP0 P) Len.rf h.lim ka ko ⟨fun t' _ ht=>?_,fun _ e=>?_,fun _ e=>?_,fun _ e=>?_⟩ (by rw[if_pos ki];exact hs) ki ki ki (by intros;rfl) (fun ha=>?_)
   ·rw[if_pos ki];dsimp only;rw[Qq h.kl,ert];exact agp
   ·rw[if_pos ki] at ht;cases ht;exact ⟨g1,g2⟩
   ·rw[if_pos ki] at e;rw[show (wkAt m.l k).state=13 from e] at hs;cases hs
   ·rw[if_pos ki] at e;rw[show (wkAt m.l k).state=15 from e] at hs;cases hs
   ·rw[if_pos ki] at e;rw[show (wkAt m.l k).state=20 from e] at hs;cases hs
   ·rw[if_pos ki] at ha ⊢;exact h.gs ha
  ·have c':=Bool.eq_false_iff.2 c;exact hnone { t with stage:=(t.r.may (ldW m.c.ws (q.word t.r.id t.it 1)) t.it t.counter).1,next:=3 } rfl g1 g2 (by unfold rtStep goesN;rw[if_pos d4,c'];rfl)
 ·
  have hld:=sw_ld (l:=m.l) (s:=m.c) h.g.ok hi t.it;by_cases c:ldW m.c.ws (q.word t.r.id t.it 1)=tokF t.r.serial t.it t.stage
  ·have e4:rtStep q t m.c.ws=({ t with next:=2 },stW m.c.ws (q.word t.r.id t.it 1) 0):=by unfold rtStep goesN swW;rw[if_neg ka,if_pos d4,if_pos c];rfl
   obtain ⟨a1,a2,a3,a4,a5,a6⟩:=h.tokAt (hld.symm.trans c) hser'.1 ka ka d5;unfold checkF2;dsimp only;rw[et];dsimp only;simp only[e4];rw[if_pos ki];have q1:((aRC q m.c m.l).fr (pc t.r.id (sR q t.it))).parent=((aRC q m.c m.l).rt k).r.id:=by rw[ert];exact a2
   have q2:((aRC q m.c m.l).fr (pc t.r.id (sR q t.it))).index=((aRC q m.c m.l).rt k).it:=by rw[ert];exact a6
   refine h.sA 11 (h.ci.chk1 h.kW h11 a1 q1 q2) ?_ (dr_wd h.g.ok h.g.ws hi _ ka ka _) (hPu (hP0 P) _ (by rw[a1];rfl)) (Len.rf.w (Qk _ _ _)) h.lim ka ko ⟨fun t' _ ht=>?_,fun _ e=>?_,fun _ e=>?_,fun _ e=>?_⟩ hs (hgs:=fun ha=>h.gs ha)
   ·dsimp only;rw[Qq h.kl,rc_sw h.g.ok h.g.ws hi,ert];exact agp
   ·cases ht;exact ⟨g1,g2⟩
   ·rw[show (wkAt m.l k).state=13 from e] at hs;cases hs
   ·rw[show (wkAt m.l k).state=15 from e] at hs;cases hs
   ·rw[show (wkAt m.l k).state=20 from e] at hs;cases hs
  ·exact hnone { t with next:=3 } rfl g1 g2 (by unfold rtStep goesN swW;rw[if_neg ka,if_pos d4,if_neg c];rfl)
 ·
  have d4':((aRC q m.c m.l).rt k).next=2:=by rw[ert];exact d4
  have c11:=h.ci.c11b k h.kW h11 d4';rw[ert] at c11;have e4:rtStep q t m.c.ws=({ t with frame:=rg k,got:=true,next:=3 },m.c.ws):=by unfold rtStep;rw[if_neg ka,if_neg ka,if_pos d4];have hld:=lk_ld (l:=m.l) (s:=m.c) h.g.ok hi t.it;have w2:=h.ci.w2 (rg k) (by rw[c11.1];exact fun e=>by cases e) c11.2.1 (by rw[c11.1];rfl) (by rw[c11.1];rfl);rw[c11.2.2.1,c11.2.2.2.1] at w2;rw[hld,w2]
  have:=h.chkEnds hs { t with frame:=rg k,got:=true,next:=3 } true (rg k) (fun _=>d4') (by rw[if_pos rfl]);unfold checkF2;dsimp only;rw[et];dsimp only;simp only[e4];rw[Z00];exact this
theorem Be.parks (h:Be q m k n P H T cl cn rg pc) (hs:(wkAt m.l k).state=13):Af q m k n (parksF q (wkAt m.l k,m.c)):=by
 have h13:(aRC q m.c m.l).st k=13:=hs;obtain ⟨t,et⟩:=h.ok.park hs;have epk:(aRC q m.c m.l).pk k=t:=by show (wkAt m.l k).park.getD pk0=t;rw[et];rfl
 obtain ⟨g1,hi⟩:=h.vr.2.1 t hs et;have h0:(wkAt m.l k).holds=0:=h.ci.c2 k h.kW (by rw[h13];rfl);have hE:=h.ci.c5e k h.kW h13;have hN:=h.ci.c5b k h.kW h13;rw[epk] at hE hN;have hn:=h.nn;have hS:=h.sr;have hE1:1≤t.r.serial∧t.r.serial≤m.c.serial:=hE.1
 have hgo:∀t':Pk,t'.next=3→t'.back=false→t.next≠0→pkStep q t m.c.ws=(t',m.c.ws)→Af q m k n (parksF q (wkAt m.l k,m.c)):=by
  intro t' e1 e2 e3 e4;have e3':((aRC q m.c m.l).pk k).next≠0:=by rw[epk];exact e3
  unfold parksF;dsimp only;rw[et];dsimp only;simp only[e4];rw[e1,e2,Z00];refine h.sP (h.ci.parkGo h.kW h13 e3') ?_ rfl (hP0 P) Len.rf h.lim ka;dsimp only[Wk.goes];rw[if_neg ko,if_neg ko,Qq h.kl];have e0:upd (aRC q m.c m.l).ho k 0=(aRC q m.c m.l).ho:=by rw[←h0];exact Qg _ _
  dsimp only;rw[e0];exact agp
 have hno:∀st,st=(wkAt m.l k).state→st≠13→False:=fun st e1 e2=>e2 (e1.trans hs);rcases hN with d|d|d
 ·have d':((aRC q m.c m.l).pk k).next=0:=by rw[epk];exact d
  have hpo:=(h.ci.c5 k h.kW h13 d').1;have e4:pkStep q t m.c.ws=({ t with next:=1 },stW m.c.ws (q.word t.r.id t.it 1) (tokF t.r.serial t.it t.stage)):=by unfold pkStep;rw[if_pos d]
  unfold parksF;dsimp only;rw[et];dsimp only;simp only[e4];rw[if_pos ki];refine h.sA 13 (h.ci.park0 h.kW h13 d') ?_ (dr_wd h.g.ok h.g.ws hi _ ka ka _) (hPu (hP0 P) _ (by rw[hpo];rfl)) (Len.rf.w (Qk _ _ _)) h.lim ka ko ⟨fun _ e=>?_,fun t' _ ht=>?_,fun _ e=>?_,fun _ e=>?_⟩ hs (hgs:=fun ha=>h.gs ha)
  ·dsimp only;rw[Qq h.kl,rc_sw h.g.ok h.g.ws hi,epk];exact agp
  ·rw[show (wkAt m.l k).state=11 from e] at hs;cases hs
  ·cases ht;exact ⟨g1,hi⟩
  ·rw[show (wkAt m.l k).state=15 from e] at hs;cases hs
  ·rw[show (wkAt m.l k).state=20 from e] at hs;cases hs
 ·by_cases c:t.stage < ldW m.c.ws (q.word t.r.id (w64 (t.it - 1)) 0)
  ·have e4:pkStep q t m.c.ws=({ t with next:=2 },m.c.ws):=by unfold pkStep goesN;rw[if_neg ka,if_pos d,decide_eq_true c];rfl
   have d':((aRC q m.c m.l).pk k).next=1:=by rw[epk];exact d
   unfold parksF;dsimp only;rw[et];dsimp only;simp only[e4];rw[if_pos ki,Z00];refine h.sA 13 (h.ci.park1 h.kW h13 d') ?_ rfl (hP0 P) Len.rf h.lim ka ko ⟨fun _ e=>?_,fun t' _ ht=>?_,fun _ e=>?_,fun _ e=>?_⟩ hs (hgs:=fun ha=>h.gs ha)
   ·dsimp only;rw[Qq h.kl,epk];exact agp
   ·rw[show (wkAt m.l k).state=11 from e] at hs;cases hs
   ·cases ht;exact ⟨g1,hi⟩
   ·rw[show (wkAt m.l k).state=15 from e] at hs;cases hs
   ·rw[show (wkAt m.l k).state=20 from e] at hs;cases hs
  ·exact hgo { t with next:=3 } rfl g1 ka (by unfold pkStep goesN;rw[if_neg ka,if_pos d,decide_eq_false c];rfl)
 ·by_cases c:ldW m.c.ws (q.word t.r.id t.it 1)=tokF t.r.serial t.it t.stage
  ·have e4:pkStep q t m.c.ws=({ t with back:=true,next:=3 },stW m.c.ws (q.word t.r.id t.it 1) 0):=by unfold pkStep swW;rw[if_neg ka,if_neg ka,if_pos d,if_pos c]
   have hld:=sw_ld (l:=m.l) (s:=m.c) h.g.ok hi t.it;obtain ⟨a1,a2,a3,a4,a5,a6⟩:=h.tokAt (hld.symm.trans c) hE1.1 ka hE.2.1 hE.2.2.1;have ec:=h.ci.c5c k h.kW h13 (pc t.r.id (sR q t.it)) (by rw[a1];exact fun e=>by cases e) a3 (by rw[epk];exact a2) (by rw[epk];exact a5) (by rw[epk];exact a6);have ec':pc t.r.id (sR q t.it)=(aRC q m.c m.l).ot k:=ec;rw[ec'] at a1 a2 a4;have q1:((aRC q m.c m.l).fr ((aRC q m.c m.l).ot k)).parent=((aRC q m.c m.l).pk k).r.id:=by rw[epk];exact a2
   have q2:sR q ((aRC q m.c m.l).fr ((aRC q m.c m.l).ot k)).index=sR q ((aRC q m.c m.l).pk k).it:=by rw[epk];exact a4
   unfold parksF;dsimp only;rw[et];dsimp only;simp only[e4];rw[if_neg ko,if_pos trivial];refine h.sA 4 (h.ci.park2 h.kW h13 a1 q1 q2) ?_ (dr_wd h.g.ok h.g.ws hi _ ka ka _) (hPu (hP0 P) _ (by rw[a1];rfl)) (Len.rf.w (Qk _ _ _)) h.lim ka ko (QL (s:=4) ko);dsimp only[Wk.runs];rw[Qq h.kl,rc_sw h.g.ok h.g.ws hi,epk];exact agp
  ·exact hgo { t with back:=false,next:=3 } rfl rfl ka (by unfold pkStep swW;rw[if_neg ka,if_neg ka,if_pos d,if_neg c])
end
end Go.Proofs.YtelibaobkcokdaaGreat.Mx.In
