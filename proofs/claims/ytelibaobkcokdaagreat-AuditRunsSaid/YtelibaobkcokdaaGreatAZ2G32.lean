/- The machine's invariant: steps, part 4. -/
import Derived.Test.YtelibaobkcokdaaGreatAZ2G31
namespace Go.Proofs.YtelibaobkcokdaaGreat.Mx.In
set_option linter.unusedSectionVars false
set_option linter.unusedVariables false
set_option linter.unusedSimpArgs false
open Go Go.Kx Go.Proofs Go.Proofs.YtelibaobkcokdaaGreat Go.Proofs.YtelibaobkcokdaaGreat.Mx
set_option linter.unusedSectionVars false
variable {T:Int} {F W:Nat} {sI:Int→Int} {tk:Int→Int→Int→Int} {r:RC} {P:Int→Pc} {cn:Int→Int} {rg:Nat→Int} {pc:Int→Int→Int}
set_option maxHeartbeats 40000000 in
theorem CN.finLast (h:CN T F W sI tk r P cn rg pc) {k:Nat} (hk:(k:Int) < (W:Int)) (h1:r.st k=17) (hJ:r.J (r.ot k)=1):
  CN T F W sI tk { r with st:=upd r.st k (18),ho:=upd r.ho k (r.ot k),J:=updI r.J (r.ot k) (r.J (r.ot k) - 1) } (updI P (r.ot k) (.own k .jn)) cn rg pc:=by
 obtain ⟨p0,p1⟩:=h.c4 k hk h1;have p2:=h.h2 (r.ot k);have p3:=h.f0b (r.ot k);exact {}
set_option maxHeartbeats 40000000 in
theorem CN.finNot (h:CN T F W sI tk r P cn rg pc) {k:Nat} (hk:(k:Int) < (W:Int)) (h1:r.st k=17):
  CN T F W sI tk { r with st:=upd r.st k (2),J:=updI r.J (r.ot k) (r.J (r.ot k) - 1) } (updI P (r.ot k) (.fin)) cn rg pc:=by
 obtain ⟨p0,p1⟩:=h.c4 k hk h1;have p2:=h.h2 (r.ot k);have p3:=h.c2 k hk eG;exact {}
set_option maxHeartbeats 40000000 in
theorem CN.complete (h:CN T F W sI tk r P cn rg pc) {k:Nat} (hk:(k:Int) < (W:Int)) (h1:r.st k=18) {p:Int} (hl:(r.fr (r.ho k)).parent=p) (hz:(∀c,P c≠.free→(r.fr c).kind≠3→(r.fr c).parent≠r.ho k)∧∀j:Nat,(j:Int) < W→r.st j=7→r.ot j≠r.ho k):
  CN T F W sI tk { r with st:=upd r.st k (4),ho:=upd r.ho k (p),us:=updI r.us (r.ho k) false } (updI (updI P (r.ho k) (.free)) p (.own k .hold)) cn rg pc:=by
 have e0:r.ho k≠0:=h.c3 k hk eG eG;have p0:P (r.ho k)=.own k .jn:=by rw[h.c1 k hk e0,h1];simp[ht]
 have p1:=h.c16c k hk;have p2:=h.f3 (r.ho k);have p3:=h.g7 _ _ p0;have p5:=h.f0b p;rw[hl] at p2
 exact {
  f2:=by (try dsimp only);have a0:=h.f2;grind (splits:=40)}
set_option maxHeartbeats 40000000 in
theorem CN.loop21 (h:CN T F W sI tk r P cn rg pc) {k:Nat} (hk:(k:Int) < (W:Int)) (h1:r.st k=19) (hn:0≤(r.fr (r.ho k)).started - T) (hd:∀c,P c≠.free→(r.fr c).kind=2→(r.fr c).parent=r.ho k→(r.fr c).index=(r.fr (r.ho k)).started - T→isLt (P c)=true):
  CN T F W sI tk { r with st:=upd r.st k (21) } P cn rg pc:=by
 have e0:r.ho k≠0:=h.c3 k hk eG eG;have p0:P (r.ho k)=.own k .hold:=by rw[h.c1 k hk e0,h1];simp[ht]
 have p1:=h.c16c k hk
 exact {
  c18:=by (try dsimp only);have a0:=h.c18;have a1:=h.f8;grind (splits:=40)}
set_option maxHeartbeats 40000000 in
theorem CN.loopNap (h:CN T F W sI tk r P cn rg pc) {k:Nat} (hk:(k:Int) < (W:Int)) (h1:r.st k=19) (hn:0≤(r.fr (r.ho k)).started - T) (hT1:1≤T) (hS:r.S < 1000000):
  CN T F W sI tk { r with st:=upd r.st k (20),ho:=upd r.ho k (0),ot:=upd r.ot k (r.ho k),np:=upd r.np k (⟨⟨r.ho k,(r.fr (r.ho k)).serial⟩,(r.fr (r.ho k)).started - T,0,false,false,false⟩) } (updI P (r.ho k) (.own k .oth)) cn rg pc:=by
 have e0:r.ho k≠0:=h.c3 k hk eG eG;have p0:P (r.ho k)=.own k .hold:=by rw[h.c1 k hk e0,h1];simp[ht]
 have p1:=h.c16c k hk;have p2:=h.f3 (r.ho k);have p3:=h.f5 (r.ho k);exact {}
set_option maxHeartbeats 40000000 in
theorem CN.nap0 (h:CN T F W sI tk r P cn rg pc) {k:Nat} (hk:(k:Int) < (W:Int)) (h1:r.st k=20) (hn:(r.np k).at_=0) (v:Tw) (hv:v.r=(r.np k).r∧v.it=(r.np k).it∧v.at_=1):
  CN T F W sI tk { r with np:=upd r.np k (v),nap:=updI r.nap (r.np k).r.id (tk (r.np k).r.serial (r.np k).it 0) } (updI P (r.ot k) (.nap)) cn rg pc:=by
 have p1:=h.c6 k hk h1;have p2:=h.c6b k hk h1 hn;exact {}
set_option maxHeartbeats 40000000 in
theorem CN.nap1 (h:CN T F W sI tk r P cn rg pc) {k:Nat} (hk:(k:Int) < (W:Int)) (h1:r.st k=20) (hn:(r.np k).at_=1) (v:Tw) (hv:v.r=(r.np k).r∧v.it=(r.np k).it∧v.at_=2) (hd:P (r.ot k)≠.free→(r.fr (r.ot k)).kind=3→(r.fr (r.ot k)).serial=(r.np k).r.serial→∀c,P c≠.free→(r.fr c).kind=2→(r.fr c).parent=r.ot k→(r.fr c).index=(r.np k).it→isLt (P c)=true):
  CN T F W sI tk { r with np:=upd r.np k (v) } P cn rg pc:=by
 have p1:=h.c6 k hk h1;exact {}
set_option maxHeartbeats 40000000 in
theorem CN.napGo (h:CN T F W sI tk r P cn rg pc) {k:Nat} (hk:(k:Int) < (W:Int)) (h1:r.st k=20) (hn:(r.np k).at_≠0):
  CN T F W sI tk { r with st:=upd r.st k (2) } P cn rg pc:=by
 have p3:=h.c2 k hk eG;exact {}
set_option maxHeartbeats 40000000 in
theorem CN.nap2 (h:CN T F W sI tk r P cn rg pc) {k:Nat} (hk:(k:Int) < (W:Int)) (h1:r.st k=20) (hn:(r.np k).at_=2) (hp:P (r.ot k)=.nap) (hs:(r.fr (r.ot k)).serial=(r.np k).r.serial) (hx:(r.fr (r.ot k)).started - T=(r.np k).it):
  CN T F W sI tk { r with st:=upd r.st k (21),ho:=upd r.ho k (r.ot k),nap:=updI r.nap (r.ot k) 0 } (updI P (r.ot k) (.own k .hold)) cn rg pc:=by
 have p1:=h.c6 k hk h1;have p2:=h.g2 _ hp;have p3:=h.c6c k hk h1 hn
 exact {
  c18:=by (try dsimp only);have a0:=h.c18;have a1:=h.f8;grind (splits:=40)}
set_option maxHeartbeats 40000000 in
theorem CN.start (h:CN T F W sI tk r P cn rg pc) {k:Nat} (hk:(k:Int) < (W:Int)) (h1:r.st k=19∨r.st k=21) {id:Int} (hf:P id=.free) (hi:0 < id) (hI:∀c,P c≠.free→(r.fr c).kind=2→(r.fr c).parent=r.ho k→isLt (P c)=false→(r.fr (r.ho k)).started - T < (r.fr c).index) (hT1:1≤T) (hb:(r.fr (r.ho k)).started+1 < 1000000) (hz:∀c,P c≠.free→(r.fr c).kind=2→(r.fr c).parent=r.ho k→isLt (P c)=false→(r.fr c).stage≠0) (hT0:r.dn (r.ho k) (sI (r.fr (r.ho k)).started)≠tk (r.fr (r.ho k)).serial (r.fr (r.ho k)).started 0) (hF:id≤F):
  CN T F W sI tk { r with st:=upd r.st k (22),ot:=upd r.ot k (id),us:=updI r.us id true,fr:=updI (updI r.fr (r.ho k) { r.fr (r.ho k) with started:=(r.fr (r.ho k)).started+1 }) id ⟨2,r.ho k,false,(r.fr (r.ho k)).started,0,0,0⟩,J:=updI r.J id 1,nap:=updI r.nap id 0,sw:=updZ r.sw id,lk:=updZ r.lk id,dn:=updZ r.dn id } (updI P id (.own k .mk)) cn rg pc:=by
 have e0:r.ho k≠0:=h.c3 k hk (by rcases h1 with h1|h1<;>rw[h1]<;>decide) ke;have p0:P (r.ho k)=.own k .hold:=by rw[h.c1 k hk e0];rcases h1 with h1|h1<;>rw[h1]<;>simp[ht]
 have p1:=h.c16c k hk;have p2:r.ho k≠id:=fun e=>by rw[e,hf] at p0;cases p0
 have p3:=h.f3 (r.ho k);have p4:=h.f5 (r.ho k);have yf2:=h.f2;have yc1:=h.c1;have yc3:=h.c3
 exact {
  c5:=by (try dsimp only);clear yf2 yc1 yc3;clear hz hT0 hI;have a0:=h.c5;have a1:=h.f0b;have a2:=h.c1;have a3:=h.f2;have a4:=h.c3;grind (splits:=40)
  c5c:=by (try dsimp only);clear yf2 yc1 yc3;clear hz hT0 hI;have a0:=h.c5c;have a1:=h.c5d;have a2:=h.c1;have a3:=h.f2;have a4:=h.c3;grind (splits:=40)
  c5d:=by (try dsimp only);clear yf2 yc1 yc3;clear hz hT0 hI;have a0:=h.c5d;have a1:=h.c5e;have a2:=h.c1;have a3:=h.f2;have a4:=h.c3;grind (splits:=40)
  c6c:=by (try dsimp only);clear yf2 yc1 yc3;clear hz hT0 hI;have a0:=h.c6c;have a1:=h.c6d;have a2:=h.c1;have a3:=h.f2;have a4:=h.c3;grind (splits:=40)
  c6d:=by (try dsimp only);clear yf2 yc1 yc3;clear hz hT0 hI;have a0:=h.c6d;have a1:=h.c6;have a2:=h.c1;have a3:=h.f2;have a4:=h.c3;grind (splits:=40)
  c7c:=by (try dsimp only);clear yf2 yc1 yc3;clear hz hT0 hI;have a0:=h.c7c;have a1:=h.c7b;have a2:=h.c1;have a3:=h.f2;have a4:=h.c3;grind (splits:=40)
  c11:=by (try dsimp only);clear yf2 yc1 yc3;clear hz hT0 hI;have a0:=h.c11;have a1:=h.c16b;have a2:=h.c1;have a3:=h.f2;have a4:=h.c3;grind (splits:=40)
  c14:=by (try dsimp only);clear yf2 yc1 yc3;clear hz hT0 hI;have a0:=h.c14;have a1:=h.c16b;have a2:=h.c1;have a3:=h.f2;have a4:=h.c3;grind (splits:=40)
  c18:=by (try dsimp only);clear yf2 yc1 yc3;clear hz hT0;have a0:=h.c18;have a1:=h.c1;have a2:=h.f2;have a3:=h.c3;grind (splits:=40)
  f3:=by (try dsimp only);clear yf2 yc1 yc3;clear hz hT0 hI;have a0:=h.f3;have a1:=h.f4;have a2:=h.s0;have a3:=h.c1;have a4:=h.f2;grind (splits:=40)
  f4:=by (try dsimp only);clear yf2 yc1 yc3;clear hz hT0 hI;have a0:=h.f4;have a1:=h.f3;have a2:=h.c1;have a3:=h.f2;grind (splits:=40)
  f6:=by (try dsimp only);clear yf2 yc1 yc3;clear hz hT0 hI;have a0:=h.f6;have a1:=h.f2;grind (splits:=40)
  f7:=by (try dsimp only);clear yf2 yc1 yc3;clear hz hT0 hI;clear hk h1 p1;have a0:=h.f7;have a1:=h.f3;have a2:=h.s0;grind (splits:=40)
  f8:=by (try dsimp only);clear yf2 yc1 yc3;clear hz hT0;have a0:=h.f8;have a1:=h.c1;have a2:=h.f2;grind (splits:=40)
  f9:=by (try dsimp only);clear yf2 yc1 yc3;clear hT0 hI;have a0:=h.f9;have a1:=h.c1;have a2:=h.f2;grind (splits:=40)
  h1:=by (try dsimp only);clear yf2 yc1 yc3;clear hz hT0 hI;have a0:=h.h1;have a1:=h.h3;have a2:=h.c1;have a3:=h.f2;grind (splits:=40)
  h2:=by (try dsimp only);clear yf2 yc1 yc3;clear hz hT0 hI;have a0:=h.h2;have a1:=h.h3;have a2:=h.c1;have a3:=h.f2;grind (splits:=40)
  w1:=by (try dsimp only);clear yf2 yc1 yc3;clear hz hT0 hI;have a0:=h.w1;have a1:=h.g1;have a2:=h.c1;have a3:=h.f2;grind (splits:=40)
  w3:=by (try dsimp only);clear yf2 yc1 yc3;clear hz;have a0:=h.w3;have a1:=h.c1;have a2:=h.f2;grind (splits:=40)
  w3b:=by (try dsimp only);clear yf2 yc1 yc3;clear hz;have a0:=h.w3b;have a1:=h.c1;have a2:=h.f2;grind (splits:=40)}
set_option maxHeartbeats 40000000 in
theorem CN.count (h:CN T F W sI tk r P cn rg pc) {k:Nat} (hk:(k:Int) < (W:Int)) (h1:r.st k=22):
  CN T F W sI tk { r with st:=upd r.st k (23) } P cn rg pc:=by
 have p1:=h.c7b k hk;exact {}
set_option maxHeartbeats 40000000 in
theorem CN.name (h:CN T F W sI tk r P cn rg pc) {k:Nat} (hk:(k:Int) < (W:Int)) (h1:r.st k=23) (hI:∀a b,0≤a→a≤b→b - a≤T→sI a=sI b→a=b):
  CN T F W sI tk { r with st:=upd r.st k (24),lk:=upd2 r.lk (r.ho k) (sI (r.fr (r.ot k)).index) (r.ot k) } P cn rg pc:=by
 have e0:r.ho k≠0:=h.c3 k hk eG eG;have p0:P (r.ho k)=.own k .hold:=by rw[h.c1 k hk e0,h1];simp[ht]
 obtain ⟨p1,p2,p3,p4,p5,p6,p7⟩:=h.c7b k hk (.inr (.inl h1));have p8:=h.f2 (r.ot k)
 exact {
  c7c:=by (try dsimp only);have a0:=h.c7c;have a1:=h.c1;have a2:=h.c3;grind (splits:=40)
  w2:=by (try dsimp only);have a0:=h.w2;have a1:=h.f2;have a2:=h.f8;have a3:=h.f6;grind (splits:=40)}
set_option maxHeartbeats 40000000 in
theorem CN.joins (h:CN T F W sI tk r P cn rg pc) {k:Nat} (hk:(k:Int) < (W:Int)) (h1:r.st k=24):
  CN T F W sI tk { r with st:=upd r.st k (4),ho:=upd r.ho k (r.ot k),J:=updI r.J (r.ho k) (r.J (r.ho k)+1) } (updI (updI P (r.ho k) (.below (r.ot k))) (r.ot k) (.own k .hold)) (updI cn (r.ho k) (cn (r.ho k)+1)) rg pc:=by
 have e0:r.ho k≠0:=h.c3 k hk eG eG;have p0:P (r.ho k)=.own k .hold:=by rw[h.c1 k hk e0,h1];simp[ht]
 obtain ⟨p1,p2,p3,p4,p5,p6,p7⟩:=h.c7b k hk (.inr (.inr h1));have p8:=h.c16c k hk;have p9:=h.c7c k hk h1
 exact {
  ni:=by have z0:=h.c1 k hk;have z1:=h.c3 k hk;refine h.ni.id1 (a:=(r.ot k)) (h.ni.b _ (by grind)) (fun i hi=>by (grind (splits:=40))) (fun j=>by (grind (splits:=40))) (fun i=>by (have a0:=h.f0b;have a1:=h.ni.b;grind (splits:=40))) (fun p hp=>by (grind (splits:=40)))}
section
variable {q:Pm} {m:Mc} {k:Nat} {n:Int} {P:Int→Pc} {H T:Nat→Int} {cl:Nat→Nat} {cn:Int→Int} {rg:Nat→Int} {pc:Int→Int→Int}
theorem Z05 (s:Cs):s.setW s.ws=s:=rfl
theorem Be.tokAt (h:Be q m k n P H T cl cn rg pc) {l i ser it st:Int} (e:(aRC q m.c m.l).sw l i=tokF ser it st) (h1:1≤ser) (h2:ser < 1000000) (h3:0≤it∧it < 1000000) (h4:0≤st∧st < 1048576):
  P (pc l i)=.parked∧(m.c.at (pc l i)).parent=l∧(m.c.at (pc l i)).kind=2∧sR q (m.c.at (pc l i)).index=i∧(m.c.at l).serial=ser∧(m.c.at (pc l i)).index=it:=by
 obtain ⟨a1,a2,a3,a4⟩:=h.ci.w1 l i (by rw[e];exact JC h1);have a2':(m.c.at (pc l i)).parent=l:=a2;have a5:(m.c.at (pc l i)).kind=2:=h.ci.g1 _ a1;have hp:P (pc l i)≠.free:=by rw[a1];exact fun e=>by cases e
 have a6:=h.idx hp a5;have a7:=h.ci.f3 (m.c.at (pc l i)).parent a6.1 a6.2.1;have a8:=h.ci.f5 _ hp;have hn:=h.nn;have hS:=h.sr;have a9:(1≤(m.c.at (m.c.at (pc l i)).parent).serial∧(m.c.at (m.c.at (pc l i)).parent).serial≤m.c.serial):=a7.2.2.1;rw[a2'] at a9;have b1:0≤(m.c.at (pc l i)).stage∧(m.c.at (pc l i)).stage < 1048576:=⟨a8.1,a8.2.1⟩;have a4':(aRC q m.c m.l).sw l i=tokF (m.c.at l).serial (m.c.at (pc l i)).index (m.c.at (pc l i)).stage:=a4;rw[e] at a4';have b2:=tok_inj ke h2 h3.1 h3.2 h4.1 h4.2 ke ke ke ke b1.1 b1.2 a4';exact ⟨a1,a2',a5,a3,b2.1.symm,b2.2.1.symm⟩
theorem Be.chkEnds (h:Be q m k n P H T cl cn rg pc) (hs:(wkAt m.l k).state=11) (t':Rt) (b:Bool) (id:Int) (hb:b=true→((aRC q m.c m.l).rt k).next=2) (hi:id=if b=true then rg k else 0):
  Af q m k n (if (wkAt m.l k).gWhy=2 then ({ wkAt m.l k with right:=some t',eRight:=id,wake:=some (wakeNew (ringF m.c (m.c.at (wkAt m.l k).holds).parent) (m.c.at (wkAt m.l k).holds).index (!(wkAt m.l k).eHeld)),state:=15 },m.c)
   else if b=true then (({ wkAt m.l k with right:=some t' }:Wk).pushes id (if (wkAt m.l k).gWhy=1 then .stop else .decide),m.c)
   else if (wkAt m.l k).gWhy=1 then stopF ({ wkAt m.l k with right:=some t' },m.c) else decideF q ({ wkAt m.l k with right:=some t' },m.c)):=by
 have h11:(aRC q m.c m.l).st k=11:=hs;have hp:=h.nf eN eI;split
 ·rename_i c;refine h.sA 15 (h.ci.chkEnd h.kW h11 c b hb) ?_ rfl (hP0 P) Len.rf h.lim ke ka ⟨fun _ e=>(by cases e),fun _ e=>(by cases e),fun t _ ht=>(by cases ht;exact ⟨rfl,rfl⟩),fun _ e=>(by cases e)⟩;dsimp only;rw[Qq h.kl,hi];exact agp
 rename_i c;have c':(aRC q m.c m.l).gy k≠2:=c;split
 ·rename_i c2;have hn2:=hb c2;rw[if_pos c2] at hi;subst hi;have c11:=h.ci.c11b k h.kW h11 hn2;have hwk:∀y:Int,wk2 (if y=1 then Th.stop else .decide)=true:=fun y=>by split<;>rfl
  refine h.sU (id:=rg k) (h.ci.chkPush h.kW h11 hn2 c' _ (hwk (wkAt m.l k).gWhy)) ?_ rfl (hPu (hP0 P) _ (by rw[c11.1];rfl)) Len.rf h.lim ke rfl (hgs:=fun _=>h.gs (at_of (.inr (.inr ⟨hs,c⟩))));dsimp only[Wk.pushes];rw[Qq h.kl];exact agp
 have hB:=h.sB (y:=({ wkAt m.l k with right:=some t',state:=12 },m.c)) 12 (h.ci.after h.kW (.inr (.inr ⟨h11,c'⟩)) 12 (.inr rfl)) (by dsimp only;rw[Qq h.kl];exact agp) rfl (hP0 P) Len.rf ⟨h.sr,h.sd⟩ ke ke h.g.ar (hgs:=fun _=>h.gs (at_of (.inr (.inr ⟨hs,c⟩))));have ea:=h.at_ (y:=({ wkAt m.l k with right:=some t',state:=12 },m.c));split
 ·have:=hB.stop (by rw[ea];exact .inl rfl);refine h.on ?_ (y:=({ wkAt m.l k with right:=some t',state:=12 },m.c));rw[ea] at this;exact this
 ·have:=hB.decide (by rw[ea];exact .inr (.inl rfl));refine h.on ?_ (y:=({ wkAt m.l k with right:=some t',state:=12 },m.c));rw[ea] at this;exact this
theorem Be.check (h:Be q m k n P H T cl cn rg pc) (hs:(wkAt m.l k).state=11):Af q m k n (checkF2 q (wkAt m.l k,m.c)):=by
 have h11:(aRC q m.c m.l).st k=11:=hs;have hp:=h.nf eN eI;obtain ⟨t,et⟩:=h.ok.right hs;have ert:(aRC q m.c m.l).rt k=t:=by show (wkAt m.l k).right.getD rt0=t;rw[et];rfl
 obtain ⟨g1,g2⟩:=h.vr.1 t hs et;have hk:=h.ci.c16b k h.kW (.inr (.inr (.inl h11)));have hx:=h.idx hp hk.1;have hc:=h.ci.c11 k h.kW h11;rw[ert] at hc;obtain ⟨d1,d2,d3,d4,d5,d6⟩:=hc;have d1':t.r.id=(m.c.at (wkAt m.l k).holds).parent:=d1;have d2':t.r.serial=(m.c.at (m.c.at (wkAt m.l k).holds).parent).serial:=d2;have d3':t.it=(m.c.at (wkAt m.l k).holds).index+1:=d3;have hpl:P t.r.id≠.free:=by rw[d1'];exact hx.1
 have hi:=h.inF hpl;have hn:=h.nn;have hS:=h.sr;have hser:=(h.ci.f3 _ hx.1 hx.2.1).2.2.1;have hser':1≤t.r.serial∧t.r.serial≤m.c.serial:=by rw[d2'];exact hser
 have hnone:∀t':Rt,t'.next=3→t'.got=false→t'.frame=0→rtStep q t m.c.ws=(t',m.c.ws)→Af q m k n (checkF2 q (wkAt m.l k,m.c)):=by intro t' e1 e2 e3 e4;have:=h.chkEnds hs t' false 0 (fun e=>by cases e) rfl;unfold checkF2;dsimp only;rw[et];dsimp only;simp only[e4];rw[e1,e2,e3,Z05];exact this
 rcases d4 with d4|d4|d4
 ·
  by_cases c:(t.r.may (ldW m.c.ws (q.word t.r.id t.it 1)) t.it t.counter).2=true
  ·have e4:rtStep q t m.c.ws=({ t with stage:=(t.r.may (ldW m.c.ws (q.word t.r.id t.it 1)) t.it t.counter).1,next:=1 },m.c.ws):=by unfold rtStep goesN;rw[if_pos d4,c];rfl
   have hv:0≤(t.r.may (ldW m.c.ws (q.word t.r.id t.it 1)) t.it t.counter).1∧(t.r.may (ldW m.c.ws (q.word t.r.id t.it 1)) t.it t.counter).1 < 1048576:=by
    unfold Rg.may;split
    ·unfold tokStage wholeT;dsimp only;omega
    ·dsimp only;omega
   generalize (t.r.may (ldW m.c.ws (q.word t.r.id t.it 1)) t.it t.counter).1=v at e4 hv;have d4':((aRC q m.c m.l).rt k).next=0:=by rw[ert];exact d4
   unfold checkF2;dsimp only;rw[et];dsimp only;simp only[e4];rw[Z05];refine h.sA 11 (h.ci.chk0 h.kW h11 d4' v hv) ?_ rfl (hP0 P) Len.rf h.lim ke ka ⟨fun t' _ ht=>?_,fun _ e=>?_,fun _ e=>?_,fun _ e=>?_⟩ (by rw[if_pos ku];exact hs) ku ku ku (by intros;rfl) (fun ha=>?_)
   ·rw[if_pos ku];dsimp only;rw[Qq h.kl,ert];exact agp
   ·rw[if_pos ku] at ht;cases ht;exact ⟨g1,g2⟩
   ·rw[if_pos ku] at e;rw[show (wkAt m.l k).state=13 from e] at hs;cases hs
   ·rw[if_pos ku] at e;rw[show (wkAt m.l k).state=15 from e] at hs;cases hs
   ·rw[if_pos ku] at e;rw[show (wkAt m.l k).state=20 from e] at hs;cases hs
   ·rw[if_pos ku] at ha ⊢;exact h.gs ha
  ·have c':=Bool.eq_false_iff.2 c;exact hnone { t with stage:=(t.r.may (ldW m.c.ws (q.word t.r.id t.it 1)) t.it t.counter).1,next:=3 } rfl g1 g2 (by unfold rtStep goesN;rw[if_pos d4,c'];rfl)
 ·
  have hld:=sw_ld (l:=m.l) (s:=m.c) h.g.ok hi t.it;by_cases c:ldW m.c.ws (q.word t.r.id t.it 1)=tokF t.r.serial t.it t.stage
  ·have e4:rtStep q t m.c.ws=({ t with next:=2 },stW m.c.ws (q.word t.r.id t.it 1) 0):=by unfold rtStep goesN swW;rw[if_neg ke,if_pos d4,if_pos c];rfl
   obtain ⟨a1,a2,a3,a4,a5,a6⟩:=h.tokAt (hld.symm.trans c) hser'.1 ke ke d5;unfold checkF2;dsimp only;rw[et];dsimp only;simp only[e4];rw[if_pos ku];have q1:((aRC q m.c m.l).fr (pc t.r.id (sR q t.it))).parent=((aRC q m.c m.l).rt k).r.id:=by rw[ert];exact a2
   have q2:((aRC q m.c m.l).fr (pc t.r.id (sR q t.it))).index=((aRC q m.c m.l).rt k).it:=by rw[ert];exact a6
   refine h.sA 11 (h.ci.chk1 h.kW h11 a1 q1 q2) ?_ (dr_wd h.g.ok h.g.ws hi _ ke ke _) (hPu (hP0 P) _ (by rw[a1];rfl)) (Len.rf.w (Qm _ _ _)) h.lim ke ka ⟨fun t' _ ht=>?_,fun _ e=>?_,fun _ e=>?_,fun _ e=>?_⟩ hs (hgs:=fun ha=>h.gs ha)
   ·dsimp only;rw[Qq h.kl,rc_sw h.g.ok h.g.ws hi,ert];exact agp
   ·cases ht;exact ⟨g1,g2⟩
   ·rw[show (wkAt m.l k).state=13 from e] at hs;cases hs
   ·rw[show (wkAt m.l k).state=15 from e] at hs;cases hs
   ·rw[show (wkAt m.l k).state=20 from e] at hs;cases hs
  ·exact hnone { t with next:=3 } rfl g1 g2 (by unfold rtStep goesN swW;rw[if_neg ke,if_pos d4,if_neg c];rfl)
 ·
  have d4':((aRC q m.c m.l).rt k).next=2:=by rw[ert];exact d4
  have c11:=h.ci.c11b k h.kW h11 d4';rw[ert] at c11;have e4:rtStep q t m.c.ws=({ t with frame:=rg k,got:=true,next:=3 },m.c.ws):=by unfold rtStep;rw[if_neg ke,if_neg ke,if_pos d4];have hld:=lk_ld (l:=m.l) (s:=m.c) h.g.ok hi t.it;have w2:=h.ci.w2 (rg k) (by rw[c11.1];exact fun e=>by cases e) c11.2.1 (by rw[c11.1];rfl) (by rw[c11.1];rfl);rw[c11.2.2.1,c11.2.2.2.1] at w2;rw[hld,w2]
  have:=h.chkEnds hs { t with frame:=rg k,got:=true,next:=3 } true (rg k) (fun _=>d4') (by rw[if_pos rfl]);unfold checkF2;dsimp only;rw[et];dsimp only;simp only[e4];rw[Z05];exact this
theorem Be.parks (h:Be q m k n P H T cl cn rg pc) (hs:(wkAt m.l k).state=13):Af q m k n (parksF q (wkAt m.l k,m.c)):=by
 have h13:(aRC q m.c m.l).st k=13:=hs;obtain ⟨t,et⟩:=h.ok.park hs;have epk:(aRC q m.c m.l).pk k=t:=by show (wkAt m.l k).park.getD pk0=t;rw[et];rfl
 obtain ⟨g1,hi⟩:=h.vr.2.1 t hs et;have h0:(wkAt m.l k).holds=0:=h.ci.c2 k h.kW (by rw[h13];rfl);have hE:=h.ci.c5e k h.kW h13;have hN:=h.ci.c5b k h.kW h13;rw[epk] at hE hN;have hn:=h.nn;have hS:=h.sr;have hE1:1≤t.r.serial∧t.r.serial≤m.c.serial:=hE.1
 have hgo:∀t':Pk,t'.next=3→t'.back=false→t.next≠0→pkStep q t m.c.ws=(t',m.c.ws)→Af q m k n (parksF q (wkAt m.l k,m.c)):=by
  intro t' e1 e2 e3 e4;have e3':((aRC q m.c m.l).pk k).next≠0:=by rw[epk];exact e3
  unfold parksF;dsimp only;rw[et];dsimp only;simp only[e4];rw[e1,e2,Z05];refine h.sP (h.ci.parkGo h.kW h13 e3') ?_ rfl (hP0 P) Len.rf h.lim ke;dsimp only[Wk.goes];rw[if_neg ka,if_neg ka,Qq h.kl];have e0:upd (aRC q m.c m.l).ho k 0=(aRC q m.c m.l).ho:=by rw[←h0];exact Qi _ _
  dsimp only;rw[e0];exact agp
 have hno:∀st,st=(wkAt m.l k).state→st≠13→False:=fun st e1 e2=>e2 (e1.trans hs);rcases hN with d|d|d
 ·have d':((aRC q m.c m.l).pk k).next=0:=by rw[epk];exact d
  have hpo:=(h.ci.c5 k h.kW h13 d').1;have e4:pkStep q t m.c.ws=({ t with next:=1 },stW m.c.ws (q.word t.r.id t.it 1) (tokF t.r.serial t.it t.stage)):=by unfold pkStep;rw[if_pos d]
  unfold parksF;dsimp only;rw[et];dsimp only;simp only[e4];rw[if_pos ku];refine h.sA 13 (h.ci.park0 h.kW h13 d') ?_ (dr_wd h.g.ok h.g.ws hi _ ke ke _) (hPu (hP0 P) _ (by rw[hpo];rfl)) (Len.rf.w (Qm _ _ _)) h.lim ke ka ⟨fun _ e=>?_,fun t' _ ht=>?_,fun _ e=>?_,fun _ e=>?_⟩ hs (hgs:=fun ha=>h.gs ha)
  ·dsimp only;rw[Qq h.kl,rc_sw h.g.ok h.g.ws hi,epk];exact agp
  ·rw[show (wkAt m.l k).state=11 from e] at hs;cases hs
  ·cases ht;exact ⟨g1,hi⟩
  ·rw[show (wkAt m.l k).state=15 from e] at hs;cases hs
  ·rw[show (wkAt m.l k).state=20 from e] at hs;cases hs
 ·by_cases c:t.stage < ldW m.c.ws (q.word t.r.id (w64 (t.it - 1)) 0)
  ·have e4:pkStep q t m.c.ws=({ t with next:=2 },m.c.ws):=by unfold pkStep goesN;rw[if_neg ke,if_pos d,decide_eq_true c];rfl
   have d':((aRC q m.c m.l).pk k).next=1:=by rw[epk];exact d
   unfold parksF;dsimp only;rw[et];dsimp only;simp only[e4];rw[if_pos ku,Z05];refine h.sA 13 (h.ci.park1 h.kW h13 d') ?_ rfl (hP0 P) Len.rf h.lim ke ka ⟨fun _ e=>?_,fun t' _ ht=>?_,fun _ e=>?_,fun _ e=>?_⟩ hs (hgs:=fun ha=>h.gs ha)
   ·dsimp only;rw[Qq h.kl,epk];exact agp
   ·rw[show (wkAt m.l k).state=11 from e] at hs;cases hs
   ·cases ht;exact ⟨g1,hi⟩
   ·rw[show (wkAt m.l k).state=15 from e] at hs;cases hs
   ·rw[show (wkAt m.l k).state=20 from e] at hs;cases hs
  ·exact hgo { t with next:=3 } rfl g1 ke (by unfold pkStep goesN;rw[if_neg ke,if_pos d,decide_eq_false c];rfl)
 ·by_cases c:ldW m.c.ws (q.word t.r.id t.it 1)=tokF t.r.serial t.it t.stage
  ·have e4:pkStep q t m.c.ws=({ t with back:=true,next:=3 },stW m.c.ws (q.word t.r.id t.it 1) 0):=by unfold pkStep swW;rw[if_neg ke,if_neg ke,if_pos d,if_pos c]
   have hld:=sw_ld (l:=m.l) (s:=m.c) h.g.ok hi t.it;obtain ⟨a1,a2,a3,a4,a5,a6⟩:=h.tokAt (hld.symm.trans c) hE1.1 ke hE.2.1 hE.2.2.1;have ec:=h.ci.c5c k h.kW h13 (pc t.r.id (sR q t.it)) (by rw[a1];exact fun e=>by cases e) a3 (by rw[epk];exact a2) (by rw[epk];exact a5) (by rw[epk];exact a6);have ec':pc t.r.id (sR q t.it)=(aRC q m.c m.l).ot k:=ec;rw[ec'] at a1 a2 a4;have q1:((aRC q m.c m.l).fr ((aRC q m.c m.l).ot k)).parent=((aRC q m.c m.l).pk k).r.id:=by rw[epk];exact a2
   have q2:sR q ((aRC q m.c m.l).fr ((aRC q m.c m.l).ot k)).index=sR q ((aRC q m.c m.l).pk k).it:=by rw[epk];exact a4
   unfold parksF;dsimp only;rw[et];dsimp only;simp only[e4];rw[if_neg ka,if_pos trivial];refine h.sA 4 (h.ci.park2 h.kW h13 a1 q1 q2) ?_ (dr_wd h.g.ok h.g.ws hi _ ke ke _) (hPu (hP0 P) _ (by rw[a1];rfl)) (Len.rf.w (Qm _ _ _)) h.lim ke ka (QL (s:=4) ka);dsimp only[Wk.runs];rw[Qq h.kl,rc_sw h.g.ok h.g.ws hi,epk];exact agp
  ·exact hgo { t with back:=false,next:=3 } rfl rfl ke (by unfold pkStep swW;rw[if_neg ke,if_neg ke,if_pos d,if_neg c])
end
section
variable {q:Pm} {m:Mc} {k:Nat} {n:Int} {P:Int→Pc} {H T:Nat→Int} {cl:Nat→Nat} {cn:Int→Int} {rg:Nat→Int} {pc:Int→Int→Int}
theorem Be.ends (h:Be q m k n P H T cl cn rg pc) (hs:(wkAt m.l k).state=14):Af q m k n (endsF q (wkAt m.l k,m.c)):=by have h14:(aRC q m.c m.l).st k=14:=hs;have hp:=h.nf eN eI;have hk:=h.ci.c16b k h.kW (.inr (.inr (.inr (.inr (.inl h14)))));have hx:=h.idx hp hk.1;have hi:=h.inF hx.1;have hn:=h.nn;have e1:aRC q (m.c.setW (stW m.c.ws (q.word (m.c.at (wkAt m.l k).holds).parent (m.c.at (wkAt m.l k).holds).index 0) 1048576)) m.l=aRC q m.c m.l:=rc_ct h.g.ok h.g.ws hi _ _;have e2:aDR q (m.c.setW (stW m.c.ws (q.word (m.c.at (wkAt m.l k).holds).parent (m.c.at (wkAt m.l k).holds).index 0) 1048576)) m.l=aDR q m.c m.l:=dr_wd h.g.ok h.g.ws hi _ ke ke _;have hL:Len m.c (m.c.setW (stW m.c.ws (q.word (m.c.at (wkAt m.l k).holds).parent (m.c.at (wkAt m.l k).holds).index 0) 1048576)):=Len.rf.w (Qm _ _ _);unfold endsF noteF checksF rtLook ringF;dsimp only;have hw:w64 ((m.c.at (wkAt m.l k).holds).index+1)=(m.c.at (wkAt m.l k).holds).index+1:=Q54 ke ke;have ea:∀(ev:Vt) (x:Int),((m.c.setW (stW m.c.ws (q.word (m.c.at (wkAt m.l k).holds).parent (m.c.at (wkAt m.l k).holds).index 0) 1048576)).note ev).at x=m.c.at x:=fun _ _=>rfl;rw[ea,hw,ea];refine h.sA 11 (h.ci.checks2 h.kW h14 1048576) ?_ e2 (hP0 P) (hL.n _) h.lim ke ka ⟨fun t _ ht=>(by cases ht;exact ⟨rfl,rfl⟩),fun _ e=>(by cases e),fun _ e=>(by cases e),fun _ e=>(by cases e)⟩;dsimp only;rw[Qq h.kl,JE,e1];exact agp
theorem Be.closes (h:Be q m k n P H T cl cn rg pc) (hs:(wkAt m.l k).state=15):Af q m k n (closesF q (wkAt m.l k,m.c)):=by
 have h15:(aRC q m.c m.l).st k=15:=hs;have hp:=h.nf eN eI;obtain ⟨t,et⟩:=h.ok.wake hs;have ewa:(aRC q m.c m.l).wa k=t:=by show (wkAt m.l k).wake.getD tw0=t;rw[et];rfl
 obtain ⟨g1,g2⟩:=h.vr.2.2.1 t hs et;have hk:=h.ci.c16b k h.kW (.inr (.inr (.inr (.inr (.inr (.inl h15))))));have hx:=h.idx hp hk.1;have hc:=h.ci.c14 k h.kW h15;rw[ewa] at hc;obtain ⟨d1,d2,d3,d4⟩:=hc;have d1':t.r.id=(m.c.at (wkAt m.l k).holds).parent:=d1;have d2':t.r.serial=(m.c.at (m.c.at (wkAt m.l k).holds).parent).serial:=d2;have d3':t.it=(m.c.at (wkAt m.l k).holds).index:=d3;have hpl:P t.r.id≠.free:=by rw[d1'];exact hx.1
 have hi:=h.inF hpl;have hn:=h.nn;have hS:=h.sr;have hser:=(h.ci.f3 _ hx.1 hx.2.1).2.2.1;have hser':1≤t.r.serial∧t.r.serial≤m.c.serial:=by rw[d2'];exact hser
 have hpo:=h.ho eN eI
 have hnd:nd (P (wkAt m.l k).holds)=true:=by
  rw[hpo,hs];unfold ht;split
  ·rfl
  ·split<;>rfl
 have hvr:∀t':Tw,t'.over=false→t'.won=false→Vr q { wkAt m.l k with wake:=some t' }:=fun t' o1 o2=>⟨fun _ e=>(by rw[show (wkAt m.l k).state=11 from e] at hs;cases hs),fun _ e=>(by rw[show (wkAt m.l k).state=13 from e] at hs;cases hs),fun _ _ e=>(by cases e;exact ⟨o1,o2⟩),fun _ e=>(by rw[show (wkAt m.l k).state=20 from e] at hs;cases hs)⟩
 have hend:∀t':Tw,t'.over=true→t'.won=false→1≤t.at_→wakeStep q t m.c.ws=(t',m.c.ws)→Af q m k n (closesF q (wkAt m.l k,m.c)):=by
  intro t' o1 o2 o3 o4;have o3':1≤((aRC q m.c m.l).wa k).at_:=by rw[ewa];exact o3
  unfold closesF;dsimp only;rw[et];dsimp only;simp only[o4];rw[o1,if_pos rfl,o2,Z05];refine h.sA 16 (h.ci.wakeEnd h.kW h15 o3') ?_ rfl (hP0 P) Len.rf h.lim ke ka (QL (s:=16) ka);dsimp only;rw[Qq h.kl];exact agp
 rcases d4 with d4|d4|d4
 ·have d4':((aRC q m.c m.l).wa k).at_=0:=by rw[ewa];exact d4
  have e4:wakeStep q t m.c.ws=(t.go t.looks,stW m.c.ws (q.word t.r.id t.it 3) (tokF t.r.serial t.it 0)):=by unfold wakeStep;rw[g1,if_neg ka,if_pos d4]
  have hat:(t.go t.looks).at_=1:=by unfold Tw.go;dsimp only;rw[d4];rfl
  have hv:(t.go t.looks).r=((aRC q m.c m.l).wa k).r∧(t.go t.looks).it=((aRC q m.c m.l).wa k).it∧(t.go t.looks).at_=1:=by rw[ewa];exact ⟨rfl,rfl,hat⟩
  have hI:∀i,0≤i→i < 1000000→tokF ((aRC q m.c m.l).wa k).r.serial i 0=tokF ((aRC q m.c m.l).wa k).r.serial ((aRC q m.c m.l).wa k).it 0→i=((aRC q m.c m.l).wa k).it:=by rw[ewa];intro i i0 i1 e;exact (tok_inj ke ke i0 i1 ke ke ke ke ke ke ke ke e).2.1
  have C:=h.ci.wake0 h.kW h15 d4' _ hv hI;have e5:=rc_dn (l:=m.l) h.g.ok h.g.ws hi t.it (tokF t.r.serial t.it 0);have e6:aDR q (m.c.setW (stW m.c.ws (q.word t.r.id t.it 3) (tokF t.r.serial t.it 0))) m.l=aDR q m.c m.l:=dr_wd h.g.ok h.g.ws hi _ ke ke _;have hL:Len m.c (m.c.setW (stW m.c.ws (q.word t.r.id t.it 3) (tokF t.r.serial t.it 0))):=Len.rf.w (Qm _ _ _);unfold closesF;dsimp only;rw[et];dsimp only;simp only[e4]
  cases hlk:t.looks with
  | true=>rw[hlk] at C hat hv;rw[if_neg (by show ¬(!true)=true;decide)];refine h.sA 15 C ?_ e6 (hPu (hP0 P) _ hnd) hL h.lim ke ka (hvr _ rfl g2) hs (hgs:=fun ha=>h.gs ha);dsimp only;rw[Qq h.kl,e5,ewa];exact agp
  | false=>rw[hlk] at C hat hv;have C2:=C.wakeEnd h.kW h15 (by show 1≤(upd (aRC q m.c m.l).wa k (t.go false) k).at_;unfold upd;rw[if_pos rfl,hat];exact Int.le_refl _);rw[if_pos (by show (!false)=true;rfl)];refine h.sA 16 C2 ?_ e6 (hPu (hP0 P) _ hnd) hL h.lim ke ka (QL (s:=16) ka);dsimp only;rw[Qq h.kl,e5,ewa];have e7:(t.go false).won=false:=g2;rw[e7];exact agp
 ·by_cases c:ldW m.c.ws (q.nap t.r.id)=tokF t.r.serial t.it 0
  ·have e4:wakeStep q t m.c.ws=(t.go true,m.c.ws):=by unfold wakeStep;rw[g1,if_neg ka,if_neg ke,if_pos d4,decide_eq_true c]
   have d4':((aRC q m.c m.l).wa k).at_=1:=by rw[ewa];exact d4
   have hat:(t.go true).at_=2:=by unfold Tw.go;dsimp only;rw[d4];rfl
   have hv:(t.go true).r=((aRC q m.c m.l).wa k).r∧(t.go true).it=((aRC q m.c m.l).wa k).it∧(t.go true).at_=2:=by rw[ewa];exact ⟨rfl,rfl,hat⟩
   unfold closesF;dsimp only;rw[et];dsimp only;simp only[e4];rw[if_neg (by show ¬(!true)=true;decide),Z05];refine h.sA 15 (h.ci.wake1 h.kW h15 d4' _ hv) ?_ rfl (hP0 P) Len.rf h.lim ke ka (hvr _ rfl g2) hs (hgs:=fun ha=>h.gs ha);dsimp only;rw[Qq h.kl];exact agp
  ·exact hend (t.go false) rfl g2 ke (by unfold wakeStep;rw[g1,if_neg ka,if_neg ke,if_pos d4,decide_eq_false c])
 ·by_cases c:ldW m.c.ws (q.nap t.r.id)=tokF t.r.serial t.it 0
  ·have e4:wakeStep q t m.c.ws=({ t with won:=true,over:=true },stW m.c.ws (q.nap t.r.id) 0):=by unfold wakeStep rouse swW;rw[g1,if_neg ka,if_neg ke,if_neg ke,if_pos c]
   have hnp:P t.r.id=.nap:=(h.ci.w4 t.r.id (by rw[←nap_ld (l:=m.l) (s:=m.c) h.g.ok hi,c];exact JC hser'.1)).1;have hnp':P ((aRC q m.c m.l).fr ((aRC q m.c m.l).ho k)).parent=.nap:=by rw[←hnp,d1'];rfl
   have o3':1≤((aRC q m.c m.l).wa k).at_:=by rw[ewa];omega
   unfold closesF;dsimp only;rw[et];dsimp only;simp only[e4];rw[if_pos trivial];refine h.sA 16 (h.ci.wakeGot h.kW h15 o3' hnp') ?_ (dr_nap h.g.ok h.g.ws hi _) (hPu (hP0 P) _ (by rw[hnp'];rfl)) (Len.rf.w (Qm _ _ _)) h.lim ke ka (QL (s:=16) ka);dsimp only;rw[Qq h.kl,rc_nap h.g.ok h.g.ws hi,d1'];exact agp
  ·exact hend { t with won:=false,over:=true } rfl rfl ke (by unfold wakeStep rouse swW;rw[g1,if_neg ka,if_neg ke,if_neg ke,if_neg c])
theorem X76 (s:Cs) (id:Int):(s.free id).ws=s.ws:=by unfold Cs.free;split<;>rfl
theorem rc_fJ (ok:q.Ok) {s:Cs} {l:List Wk} (hw:(s.ws.length:Int)=q.size) {id l':Int} (hh:s.isHeld id=true) (hl:1≤l'∧l'≤q.F) (v:Int):
  aRC q ((s.free id).setW (stW s.ws (q.frame l') v)) l={ aRC q s l with us:=updI (aRC q s l).us id false,fr:=updI (aRC q s l).fr id (feOf fm0),J:=updI (aRC q s l).J l' v }:=by
 rw[←X76 s id,rc_J ok (by rw[X76];exact hw) hl,rc_free hh]
theorem XM {P:Int→Pc} {f:Int→Fe} {a:Int} {v:Fe} (e:P a=.free):∀id,P id≠.free→updI f a v id=f id:=by intro id hid;unfold updI;rw[if_neg];intro c;exact hid (by rw[c];exact e)
theorem Be.drop (h:Be q m k n P H T cl cn rg pc) (hs:(wkAt m.l k).state=16):Af q m k n (dropF q (wkAt m.l k,m.c)):=by
 have h16:(aRC q m.c m.l).st k=16:=hs;have hne:=h.ne eN eI;have hp:=h.nf eN eI;have hpo:P (wkAt m.l k).holds=.own k .lt:=by have:=h.ho eN eI;rw[hs] at this;exact this
 have hh:=h.held hp;have hk:=h.ci.c16b k h.kW (.inr (.inr (.inr (.inr (.inr (.inr h16))))));have hk2:(m.c.at (wkAt m.l k).holds).kind=2:=hk.1;have hx:=h.idx hp hk.1;have hcn0:cn ((aRC q m.c m.l).ho k)=0:=h.ci.h1 _ hp (by show (m.c.at (wkAt m.l k).holds).kind≠3;rw[hk2];decide) hk.2;have hz:=h.ci.hz h.g.ni h.kl hne (by rw[h16];decide) hcn0;have hc17:=h.ci.c17 k h.kW (.inr (.inr (.inl h16)));have hf9:(m.c.at (wkAt m.l k).holds).stage=0→P (m.c.at (wkAt m.l k).holds).parent=.below (wkAt m.l k).holds:=fun a=>(h.ci.f9 _ hp hk.1 a (by rw[hpo];rfl)).1;have hc12:=h.ci.c12 k h.kW (.inr h16);have hc13:(wkAt m.l k).eWoken=true→P (m.c.at (wkAt m.l k).holds).parent=.own k .wok:=h.ci.c13 k h.kW h16;unfold dropF;dsimp only;rw[X76,h.jl hx.1];dsimp only;have hl:((aRC q m.c m.l).fr ((aRC q m.c m.l).ho k)).parent=(m.c.at (wkAt m.l k).holds).parent:=rfl;have hln:(m.c.at (wkAt m.l k).holds).parent≠(wkAt m.l k).holds:=fun e=>by have:=hx.2.1;rw[e,hk2] at this;cases this
 have hl3:=hx.2.1;have hpl:=hx.1;have hi:=h.inF hx.1;have hhl:=h.held hx.1;have hJ:=h.Jb hx.1;generalize (m.c.at (wkAt m.l k).holds).parent=l at hl hln hl3 hpl hi hJ hhl hf9 hc13 ⊢;have hc1:1≤cn l:=h.g.ni.child (by have:=hi.1;omega) hp (by rw[hpo];rfl) (by show (m.c.at (wkAt m.l k).holds).kind≠3;rw[hk2];decide) hl;have eR:=rc_fJ (l:=m.l) h.g.ok h.g.ws hh hi ((aRC q m.c m.l).J l - 1);have eD:aDR q ((m.c.free (wkAt m.l k).holds).setW (stW m.c.ws (q.frame l) ((aRC q m.c m.l).J l - 1))) m.l=aDR q m.c m.l:=by rw[←X76 m.c (wkAt m.l k).holds,dr_J h.g.ok (by rw[X76];exact h.g.ws) hi,dr_free]
 have eL:Len m.c ((m.c.free (wkAt m.l k).holds).setW (stW m.c.ws (q.frame l) ((aRC q m.c m.l).J l - 1))):=(Len.rf.e _).w (by rw[Qm,X76]);have hnd:nd (P ((aRC q m.c m.l).ho k))=true:=by show nd (P (wkAt m.l k).holds)=true;rw[hpo];rfl
 generalize (m.c.free (wkAt m.l k).holds).setW (stW m.c.ws (q.frame l) ((aRC q m.c m.l).J l - 1))=s2 at eR eD eL ⊢;have hPf:updI P ((aRC q m.c m.l).ho k) .free (wkAt m.l k).holds=.free:=if_pos rfl;have hPf2:∀(a:Int) (x:Pc),a≠(wkAt m.l k).holds→updI (updI P ((aRC q m.c m.l).ho k) .free) a x (wkAt m.l k).holds=.free:=fun a x ha=>by have:updI (updI P ((aRC q m.c m.l).ho k) .free) a x (wkAt m.l k).holds=updI P ((aRC q m.c m.l).ho k) .free (wkAt m.l k).holds:=if_neg fun e=>ha e.symm;rw[this];exact hPf
 split
 ·rename_i c;have hpb:=hf9 (hc17.1 c.1);refine h.sA 17 (h.ci.dropFin h.kW h16 hc1 hl hz hpb) ?_ eD (hPu (hPu (hP0 P) _ hnd) _ (by rw[hpb];rfl)) eL h.lim ke ka (QL (s:=17) ka);dsimp only;rw[Qq h.kl,eR];constructor<;>try first|rfl|exact Qi _ _|exact (Z57 _ _ _ _).symm|(intro _ _;rfl)|(intro j _;exact congrFun (Qi _ _) j)|(intro j hj;by_cases c:j=k;(rw[c] at hj;simp[upd] at hj);simp[upd,c];done)
  exact XM (hPf2 l _ hln)
 rename_i c1;split
 ·rename_i c;have hpb:=hf9 (hc17.1 c);refine h.sA 19 (h.ci.dropHeld h.kW h16 hc1 hl hz hpb) ?_ eD (hPu (hPu (hP0 P) _ hnd) _ (by rw[hpb];rfl)) eL h.lim ke ka (QL (s:=19) ka);dsimp only[Wk.loops];rw[Qq h.kl,eR];constructor<;>try first|rfl|exact Qi _ _|exact (Z57 _ _ _ _).symm|(intro _ _;rfl)|(intro j _;exact congrFun (Qi _ _) j)|(intro j hj;by_cases c:j=k;(rw[c] at hj;simp[upd] at hj);simp[upd,c];done)
  exact XM (hPf2 l _ hln)
 rename_i c2;split
 ·rename_i c;have c':(aRC q m.c m.l).J l=1:=of_decide_eq_true c;have ht:=JB (P l);have ht0:tokc (P l)=0:=by omega
  have hcl:cn l=1:=by omega
  have hpf:P l=.fin:=by
   have g3:=h.ci.g3 l;have g7:=h.ci.g7 l
   cases e:P l with
   | fin=>rfl
   | sync=>exact absurd hl3 (g3 e)
   | own j t=>
    rw[e] at ht0
    cases t with
    | jn=>have:=g7 j e;omega
    | _=>cases ht0
   | _=>rw[e] at ht0;cases ht0
  refine h.sA 18 (h.ci.dropLast h.kW h16 hc1 hl hz hpf hcl) ?_ eD (hPu (hPu (hP0 P) _ hnd) _ (by rw[hpf];rfl)) eL h.lim ke ka (QL (s:=18) ka);dsimp only;rw[Qq h.kl,eR];constructor<;>try first|rfl|exact Qi _ _|exact (Z57 _ _ _ _).symm|(intro _ _;rfl)|(intro j _;exact congrFun (Qi _ _) j)|(intro j hj;by_cases c:j=k;(rw[c] at hj;simp[upd] at hj);simp[upd,c];done)
  exact XM (hPf2 l _ hln)
 have hfr:∀x,x≠(wkAt m.l k).holds→(s2.at x).kind=(m.c.at x).kind:=fun x hx=>by
  have:(aRC q s2 m.l).fr x=(aRC q m.c m.l).fr x:=by rw[eR];exact if_neg hx
  exact congrArg Fe.kind this
 have hus:∀x,x≠(wkAt m.l k).holds→s2.isHeld x=m.c.isHeld x:=fun x hx=>by
  have:(aRC q s2 m.l).us x=(aRC q m.c m.l).us x:=by rw[eR];exact if_neg hx
  exact this
 unfold nextF;dsimp only
 have hR:(wkAt m.l k).eRight≠0→P (wkAt m.l k).eRight=.own k .rgt∧(m.c.at (wkAt m.l k).eRight).kind=2:=fun e=>by
  rcases hc12 with x|x
  ·exact absurd x e
  ·exact x
 have hRn:(wkAt m.l k).eRight≠0→(wkAt m.l k).eRight≠(wkAt m.l k).holds:=fun e x=>by have:=(hR e).1;rw[x,hpo] at this;cases this
 split
 ·rename_i c;have he:(wkAt m.l k).eRight≠0:=by omega
  have hp2:=hc13 c.2;have hpr:P ((aRC q m.c m.l).eR k)=.own k .rgt:=(hR he).1;refine h.sU (id:=l) (h.ci.dropBoth h.kW h16 hc1 hl hz c.2 he) ?_ eD (hPu (hPu (hPu (hP0 P) _ hnd) _ (by rw[hp2];rfl)) _ (by rw[hpr];rfl)) eL h.lim ke rfl;dsimp only[Wk.pushes];rw[Qq h.kl,eR];constructor<;>try first|rfl|exact Qi _ _|exact (Z57 _ _ _ _).symm|(intro _ _;rfl)|(intro j _;exact congrFun (Qi _ _) j)|(intro j hj;by_cases c:j=k;(rw[c] at hj;simp[upd] at hj);simp[upd,c];done)
  refine XM ?_;have:updI (updI (updI P ((aRC q m.c m.l).ho k) .free) l (.own k .psh)) ((aRC q m.c m.l).eR k) (.own k .oth) (wkAt m.l k).holds=updI (updI P ((aRC q m.c m.l).ho k) .free) l (.own k .psh) (wkAt m.l k).holds:=if_neg fun e=>hRn he e.symm;rw[this];exact hPf2 l _ hln
 split
 ·rename_i c;have he:(wkAt m.l k).eRight≠0:=by omega
  have hpr:P ((aRC q m.c m.l).eR k)=.own k .rgt:=(hR he).1;have et:({ wkAt m.l k with holds:=0 }:Wk).takes s2 (wkAt m.l k).eRight=({ wkAt m.l k with holds:=0 }:Wk).runs (wkAt m.l k).eRight:=by unfold Wk.takes;rw[if_neg];rw[hfr _ (hRn he),(hR he).2];omega
  rw[et];refine h.sA 4 (h.ci.dropRight h.kW h16 hc1 hl hz he) ?_ eD (hPu (hPu (hP0 P) _ hnd) _ (by rw[hpr];rfl)) eL h.lim ke ka (QL (s:=4) ka);dsimp only[Wk.runs];rw[Qq h.kl,eR];constructor<;>try first|rfl|exact Qi _ _|exact (Z57 _ _ _ _).symm|(intro _ _;rfl)|(intro j _;exact congrFun (Qi _ _) j)|(intro j hj;by_cases c:j=k;(rw[c] at hj;simp[upd] at hj);simp[upd,c];done)
  exact XM (hPf2 _ _ (hRn he))
 split
 ·rename_i c;have hp2:=hc13 c;have et:({ wkAt m.l k with holds:=0 }:Wk).takes s2 l=({ wkAt m.l k with holds:=0 }:Wk).loops l:=by unfold Wk.takes;rw[if_pos];exact ⟨by rw[hus _ hln];exact hhl,by rw[hfr _ hln];exact hl3⟩
  rw[et];refine h.sA 19 (h.ci.dropLoop h.kW h16 hc1 hl hz c) ?_ eD (hPu (hPu (hP0 P) _ hnd) _ (by rw[hp2];rfl)) eL h.lim ke ka (QL (s:=19) ka);dsimp only[Wk.loops];rw[Qq h.kl,eR];constructor<;>try first|rfl|exact Qi _ _|exact (Z57 _ _ _ _).symm|(intro _ _;rfl)|(intro j _;exact congrFun (Qi _ _) j)|(intro j hj;by_cases c:j=k;(rw[c] at hj;simp[upd] at hj);simp[upd,c];done)
  exact XM (hPf2 _ _ hln)
 ·refine h.sP (h.ci.dropGo h.kW h16 hc1 hl hz) ?_ eD (hPu (hP0 P) _ hnd) eL h.lim ke;dsimp only[Wk.goes];rw[Qq h.kl,eR];constructor<;>try first|rfl|exact Qi _ _|exact (Z57 _ _ _ _).symm|(intro _ _;rfl)|(intro j _;exact congrFun (Qi _ _) j)|(intro j hj;by_cases c:j=k;(rw[c] at hj;simp[upd] at hj);simp[upd,c];done)
  exact XM hPf
theorem Be.finish (h:Be q m k n P H T cl cn rg pc) (hs:(wkAt m.l k).state=17):Af q m k n (finishF q (wkAt m.l k,m.c)):=by
 have h17:(aRC q m.c m.l).st k=17:=hs;obtain ⟨c0,c1⟩:=h.ci.c4 k h.kW h17;have c0':P (wkAt m.l k).other=.own k .oth:=c0;have hp:P (wkAt m.l k).other≠.free:=by rw[c0'];exact fun e=>by cases e
 have hi:=h.inF hp;have h0:(wkAt m.l k).holds=0:=h.ci.c2 k h.kW (by rw[h17];rfl);unfold finishF;dsimp only;rw[h.jl hp];dsimp only;split
 ·rename_i c;have c':(aRC q m.c m.l).J ((aRC q m.c m.l).ot k)=1:=of_decide_eq_true c;refine h.sA 18 (h.ci.finLast h.kW h17 c') ?_ (dr_J h.g.ok h.g.ws hi _) (hPu (hP0 P) _ (by rw[c0];rfl)) (Len.rf.w (Qm _ _ _)) h.lim ke ka (QL (s:=18) ka);dsimp only;rw[Qq h.kl,rc_J h.g.ok h.g.ws hi];exact agp
 ·refine h.sP (h.ci.finNot h.kW h17) ?_ (dr_J h.g.ok h.g.ws hi _) (hPu (hP0 P) _ (by rw[c0];rfl)) (Len.rf.w (Qm _ _ _)) h.lim ke;dsimp only[Wk.goes];rw[Qq h.kl,rc_J h.g.ok h.g.ws hi];have e0:upd (aRC q m.c m.l).ho k 0=(aRC q m.c m.l).ho:=by rw[←h0];exact Qi _ _
  dsimp only;rw[e0];exact agp
theorem Be.complete (h:Be q m k n P H T cl cn rg pc) (hs:(wkAt m.l k).state=18):Af q m k n (completeF (wkAt m.l k,m.c)):=by
 have h18:(aRC q m.c m.l).st k=18:=hs;have hne:=h.ne eN eI;have hp:=h.nf eN eI;have hpo:P (wkAt m.l k).holds=.own k .jn:=by have:=h.ho eN eI;rw[hs] at this;exact this
 have hh:=h.held hp;have hk3:=h.ci.c16c k h.kW (.inl h18);have hf3:=h.ci.f3 _ hp hk3;have hcn0:cn ((aRC q m.c m.l).ho k)=0:=h.ci.g7 _ k hpo;have hz:=h.ci.hz h.g.ni h.kl hne (by rw[h18];decide) hcn0;have hl:((aRC q m.c m.l).fr ((aRC q m.c m.l).ho k)).parent=(m.c.at (wkAt m.l k).holds).parent:=rfl;have hpp:P (m.c.at (wkAt m.l k).holds).parent=.pipe (wkAt m.l k).holds:=hf3.1;have hpn:(m.c.at (wkAt m.l k).holds).parent≠(wkAt m.l k).holds:=fun e=>by rw[e,hpo] at hpp;cases hpp
 unfold completeF;dsimp only;have e1:∀(ev:Vt) (g:List Int),aRC q ((m.c.note ev).setFr (m.c.at (wkAt m.l k).holds).parent { (m.c.note ev).at (m.c.at (wkAt m.l k).holds).parent with regs:=g }) m.l=aRC q m.c m.l:=fun ev g=>JD (s:=m.c.note ev) h.g.hl _ _;have e2:∀(ev:Vt) (g:List Int),aDR q ((m.c.note ev).setFr (m.c.at (wkAt m.l k).holds).parent { (m.c.note ev).at (m.c.at (wkAt m.l k).holds).parent with regs:=g }) m.l=aDR q m.c m.l:=fun ev g=>QT _ _;have e3:∀(ev:Vt) (g:List Int),Len m.c ((m.c.note ev).setFr (m.c.at (wkAt m.l k).holds).parent { (m.c.note ev).at (m.c.at (wkAt m.l k).holds).parent with regs:=g }):=fun ev g=>(Len.rf.n ev).f _ _;have e4:=e1 ⟨5,(m.c.at (wkAt m.l k).holds).serial,(m.c.at (wkAt m.l k).holds).started,0⟩ (m.c.at (wkAt m.l k).holds).regs;have e5:=e2 ⟨5,(m.c.at (wkAt m.l k).holds).serial,(m.c.at (wkAt m.l k).holds).started,0⟩ (m.c.at (wkAt m.l k).holds).regs;have e6:=e3 ⟨5,(m.c.at (wkAt m.l k).holds).serial,(m.c.at (wkAt m.l k).holds).started,0⟩ (m.c.at (wkAt m.l k).holds).regs;clear e1 e2 e3;generalize (m.c.note ⟨5,(m.c.at (wkAt m.l k).holds).serial,(m.c.at (wkAt m.l k).holds).started,0⟩).setFr (m.c.at (wkAt m.l k).holds).parent { (m.c.note ⟨5,(m.c.at (wkAt m.l k).holds).serial,(m.c.at (wkAt m.l k).holds).started,0⟩).at (m.c.at (wkAt m.l k).holds).parent with regs:=(m.c.at (wkAt m.l k).holds).regs }=s2 at e4 e5 e6 ⊢;have hh2:s2.isHeld (wkAt m.l k).holds=true:=by rw[←hh];exact congrFun (congrArg RC.us e4) _
 generalize (m.c.at (wkAt m.l k).holds).parent=p at hl hpp hpn ⊢;refine h.sA 4 (h.ci.complete h.kW h18 hl hz) ?_ ((dr_free _).trans e5) (hPu (hPu (hP0 P) _ oD) _ (by rw[hpp];rfl)) (e6.e _) h.lim ke ka (QL (s:=4) ka);dsimp only[Wk.runs];rw[Qq h.kl,rc_free hh2,e4];constructor<;>try first|rfl|exact Qi _ _|exact (Z57 _ _ _ _).symm|(intro _ _;rfl)|(intro j _;exact congrFun (Qi _ _) j)|(intro j hj;by_cases c:j=k;(rw[c] at hj;simp[upd] at hj);simp[upd,c];done)
 refine XM ?_;have:updI (updI P ((aRC q m.c m.l).ho k) .free) p (.own k .hold) (wkAt m.l k).holds=updI P ((aRC q m.c m.l).ho k) .free (wkAt m.l k).holds:=if_neg fun e=>hpn e.symm;rw[this];exact if_pos rfl
end
end Go.Proofs.YtelibaobkcokdaaGreat.Mx.In
