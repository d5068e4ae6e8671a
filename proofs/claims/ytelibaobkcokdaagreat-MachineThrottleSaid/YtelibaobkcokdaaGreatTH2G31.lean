/- The machine's invariant: a step of a worker, what is to be shown. -/
import Derived.Test.YtelibaobkcokdaaGreatTH2G30
namespace Go.Proofs.YtelibaobkcokdaaGreat.Mx.In
set_option linter.unusedSectionVars false
set_option linter.unusedVariables false
set_option linter.unusedSimpArgs false
open Go Go.Kx Go.Proofs Go.Proofs.YtelibaobkcokdaaGreat Go.Proofs.YtelibaobkcokdaaGreat.Mx
set_option linter.unusedSectionVars false
section
variable {T W:Int} {sI:Int→Int} {tk:Int→Int→Int→Int} {r r2:RC} {P:Int→Pc} {cn:Int→Int} {rg:Nat→Int} {pc:Int→Int→Int}
structure AgP (P:Int→Pc) (r r2:RC):Prop where
 st:r2.st=r.st
 ho:r2.ho=r.ho
 us:r2.us=r.us
 fr:∀id,P id≠.free→r2.fr id=r.fr id
 J:r2.J=r.J
 nap:r2.nap=r.nap
 sw:r2.sw=r.sw
 lk:r2.lk=r.lk
 dn:r2.dn=r.dn
 S:r2.S=r.S
 px:∀k,r.st k=3→r2.px k=r.px k
 th:∀k,r.st k=3→r2.th k=r.th k
 ot:∀k,r.st k=6∨r.st k=7∨r.st k=8∨r.st k=13∨r.st k=17∨r.st k=20∨r.st k=22∨r.st k=23∨r.st k=24→r2.ot k=r.ot k
 gS:∀k,r.st k=9→r2.gS k=r.gS k
 gy:∀k,r.st k=11→r2.gy k=r.gy k
 eH:∀k,r.st k=11∨r.st k=14∨r.st k=15∨r.st k=16→r2.eH k=r.eH k
 eR:∀k,r.st k=15∨r.st k=16→r2.eR k=r.eR k
 eW:∀k,r.st k=16→r2.eW k=r.eW k
 rt:∀k,r.st k=11→r2.rt k=r.rt k
 pk:∀k,r.st k=13→r2.pk k=r.pk k
 wa:∀k,r.st k=15→r2.wa k=r.wa k
 np:∀k,r.st k=20→r2.np k=r.np k
 fin:r2.fin=r.fin
 pas:r2.pas=r.pas
 ns:r2.ns=r.ns
 okS:r2.okS=r.okS
theorem CI.ofP (h:CI T W sI tk r P cn rg pc) (a:AgP P r r2):CI T W sI tk r2 P cn rg pc:=
 (h.irf a.fr).of ⟨a.st,a.ho,a.us,rfl,a.J,a.nap,a.sw,a.lk,a.dn,a.S,a.px,a.th,a.ot,a.gS,a.gy,a.eH,a.eR,a.eW,a.rt,a.pk,a.wa,a.np,a.fin,a.pas,a.ns,a.okS⟩
theorem HV.ofP (h:HV T W tk r P) (hc:CI T W sI tk r P cn rg pc) (a:AgP P r r2):HV T W tk r2 P:=h.of hc a.st a.ho a.fr a.dn a.S a.fin a.pas a.ns a.okS a.gy a.np
theorem NI.ofP {F W:Nat} (h:NI F W r P cn) (a:AgP P r r2):NI F W r2 P cn:=by
 refine h.same (fun id=>?_) (fun k=>?_) h.b
 ·unfold chF;by_cases c:P id=.free
  ·simp[c]
  ·rw[a.fr id c]
 ·unfold chW;rw[a.st];by_cases c:r.st k=7
  ·rw[if_pos c,if_pos c,a.ot k (.inr (.inl c))]
  ·rw[if_neg c,if_neg c]
end
structure Len (s s':Cs):Prop where
 ws:s'.ws.length=s.ws.length
 fr:s'.fr.length=s.fr.length
 he:s'.held.length=s.held.length
 st:s'.steps=s.steps
section
variable {s s':Cs} {q:Pm}
theorem Len.rf:Len s s:=⟨rfl,rfl,rfl,rfl⟩
theorem Len.trans {s'':Cs} (h:Len s s') (h':Len s' s''):Len s s'':=⟨h'.ws.trans h.ws,h'.fr.trans h.fr,h'.he.trans h.he,h'.st.trans h.st⟩
theorem Len.w (h:Len s s') {ws':List Int} (e:ws'.length=s'.ws.length):Len s (s'.setW ws'):=⟨e.trans h.ws,h.fr,h.he,h.st⟩
theorem Len.f (h:Len s s') (id:Int) (f:Fm):Len s (s'.setFr id f):=by
 unfold Cs.setFr;split
 ·exact ⟨h.ws,by rw[←h.fr];simp,h.he,h.st⟩
 ·exact h
theorem Len.i (h:Len s s') (b:Bool) (id:Int) (f:Fm):Len s (s'.setIf b id f):=by
 unfold Cs.setIf;split
 ·exact h.f id f
 ·exact h
theorem Len.e (h:Len s s') (id:Int):Len s (s'.free id):=by
 unfold Cs.free;split
 ·exact ⟨h.ws,h.fr,by rw[←h.he];simp,h.st⟩
 ·exact h
theorem Len.n (h:Len s s') (e:Vt):Len s (s'.note e):=⟨h.ws,h.fr,h.he,h.st⟩
theorem Len.p (h:Len s s') (a b:Int):Len s (s'.stop a b):=by
 unfold Cs.stop;split
 ·exact ⟨h.ws,h.fr,h.he,h.st⟩
 ·exact h
theorem Len.m (h:Len s s') {f:Fm} {id:Int} {s'':Cs} (e:makeF q s' f=(some id,s'')):Len s s'':=by obtain ⟨b,fr,_,rfl⟩:=X56 e;exact ⟨by rw[←h.ws];unfold newW;simp only[fill_len],by rw[←h.fr];simp,by rw[←h.he];simp,h.st⟩
end
def nd:Pc→Bool|.deq ..=> false|.own _ .got=>false|_=>true
theorem hP0 (P:Int→Pc):∀id,P id=P id∨nd (P id)=true:=fun _=>.inl rfl
theorem hPu {P P':Int→Pc} (h:∀id,P' id=P id∨nd (P id)=true) {a:Int} (x:Pc) (ha:nd (P a)=true):∀id,updI P' a x id=P id∨nd (P id)=true:=by
 intro id;unfold updI;split
 ·rename_i e;subst e;exact .inr ha
 ·exact h id
theorem ndP {P P':Int→Pc} (h:∀id,P' id=P id∨nd (P id)=true):∀id,P' id=P id∨(∀j n,P id≠.deq j n)∧∀i,P id≠.own i .got:=by
 intro id;rcases h id with e|e
 ·exact .inl e
 ·refine .inr ⟨fun j n x=>?_,fun i x=>?_⟩<;>(rw[x] at e;cases e)
theorem Z46 {α:Type} (f:Nat→α) (k:Nat) (a b:α):upd (upd f k a) k b=upd f k b:=by funext i;unfold upd;split<;>rfl
theorem agp {P:Int→Pc} {r r2:RC} (h:AgP P r r2:=by constructor<;>first|rfl|exact Qg _ _|exact (Z46 _ _ _ _).symm|(intro _ _;rfl)|(intro j _;exact congrFun (Qg _ _) j)|(intro j hj;by_cases c:j=k;(rw[c] at hj;simp[upd] at hj);simp[upd,c];done)):AgP P r r2:=h
theorem QL {q:Pm} {w:Wk} {s:Int} (h:s≠11∧s≠13∧s≠15∧s≠20) (e:w.state=s:=by rfl):Vr q w:=by rw[←e] at h;exact ⟨fun _ e=>by omega,fun _ e=>by omega,fun _ e=>by omega,fun _ e=>by omega⟩
theorem wk_of {w:Wk} (h:w.state=10∨w.state=12∨w.state=4):WkOk w:=
 ⟨by omega,fun _=>by omega,fun _=>by omega,fun _=>by omega,fun _=>by omega,fun _=>by omega,fun _=>by omega⟩
structure Be (q:Pm) (m:Mc) (k:Nat) (n:Int) (P:Int→Pc) (H T:Nat→Int) (cl:Nat→Nat) (cn:Int→Int) (rg:Nat→Int) (pc:Int→Int→Int):Prop where
 g:InvG q m P H T cl cn rg pc
 kl:k < m.l.length
 nn:0≤n∧n < 100000
 st:m.c.steps=n+1
 sr:m.c.serial≤n
 sd:∀id,(m.c.at id).started≤n
 tb:∀j,T j≤n+1
 tk:Tk m.l.length (aDR q m.c m.l) (n+1)
 pr:0≤(wkAt m.l k).probed∧(wkAt m.l k).probed≤1000000
def Nx (q:Pm) (m:Mc) (n:Int):Prop:=∃P H T cl cn rg pc,InvG q m P H T cl cn rg pc∧(∀j,T j≤n)∧Tk m.l.length (aDR q m.c m.l) n
def Af (q:Pm) (m:Mc) (k:Nat) (n:Int) (y:WC):Prop:=WkOk y.1→ArI q.F y.2→Nx q ⟨y.2,m.l.set k y.1⟩ (n+1)
section
variable {q:Pm} {m:Mc} {k:Nat} {n:Int} {P P':Int→Pc} {H T H' T':Nat→Int} {cl cl':Nat→Nat} {cn cn':Int→Int} {rg rg':Nat→Int} {pc pc':Int→Int→Int}
theorem Be.kW (h:Be q m k n P H T cl cn rg pc):(k:Int) < (m.l.length:Int):=by have:=h.kl;omega
theorem Be.kq (h:Be q m k n P H T cl cn rg pc):(k:Int) < q.W:=by have:=h.kl;have:=h.g.ln;omega
theorem Be.hw (h:Be q m k n P H T cl cn rg pc):m.l[k]?=some (wkAt m.l k):=by unfold wkAt;rw[List.getD_eq_getElem?_getD,List.getElem?_eq_getElem h.kl];rfl
theorem Be.ci (h:Be q m k n P H T cl cn rg pc):CN q.T q.F.toNat m.l.length (sR q) tokF (aRC q m.c m.l) P cn rg pc:={ toCI:=by rw[h.g.ln];exact h.g.ci,hv:=by rw[h.g.ln];exact h.g.hv,ni:=h.g.ni }
theorem Be.own (h:Be q m k n P H T cl cn rg pc):(wkAt m.l k).own=k:=h.g.ow k _ h.hw
theorem Be.ok (h:Be q m k n P H T cl cn rg pc):WkOk (wkAt m.l k):=h.g.wk _ (List.mem_of_getElem? h.hw)
theorem Be.vr (h:Be q m k n P H T cl cn rg pc):Vr q (wkAt m.l k):=h.g.vr k _ h.hw
theorem Be.gs (h:Be q m k n P H T cl cn rg pc) (ha:atSt (wkAt m.l k)=true):(wkAt m.l k).gStage=(m.c.at (wkAt m.l k).holds).stage:=h.g.gs k _ h.hw ha
theorem Be.inF (h:Be q m k n P H T cl cn rg pc) {id:Int} (hp:P id≠.free):1≤id∧id≤q.F:=by have:=h.g.ni.b id hp;have:=h.g.ok.2.2.1;omega
theorem Be.held (h:Be q m k n P H T cl cn rg pc) {id:Int} (hp:P id≠.free):m.c.isHeld id=true:=(h.g.ci.f0 id).2 hp
theorem Be.ne (h:Be q m k n P H T cl cn rg pc) (h1:emp (wkAt m.l k).state=false) (h2:(wkAt m.l k).state≠3):(wkAt m.l k).holds≠0:=h.ci.c3 k h.kW h1 h2
theorem Be.ho (h:Be q m k n P H T cl cn rg pc) (h1:emp (wkAt m.l k).state=false) (h2:(wkAt m.l k).state≠3):
  P (wkAt m.l k).holds=.own k (ht (wkAt m.l k).state ((aRC q m.c m.l).wa k).at_):=h.ci.c1 k h.kW (h.ne h1 h2)
theorem Be.nf (h:Be q m k n P H T cl cn rg pc) (h1:emp (wkAt m.l k).state=false) (h2:(wkAt m.l k).state≠3):P (wkAt m.l k).holds≠.free:=by rw[h.ho h1 h2];exact fun e=>by cases e
theorem Be.lim (h:Be q m k n P H T cl cn rg pc):(aRC q m.c m.l).S≤n+1∧∀id,((aRC q m.c m.l).fr id).started≤n+1:=
 ⟨by show m.c.serial≤_;have:=h.sr;omega,fun id=>by show (m.c.at id).started≤_;have:=h.sd id;omega⟩
theorem limU {f:Int→Fe} {n:Int} (h:∀id,(f id).started≤n) (a:Int) {v:Fe} (hv:v.started≤n):∀id,(updI f a v id).started≤n:=by
 intro id;unfold updI;split
 ·exact hv
 ·exact h id
theorem at_nh {s:Cs} {id:Int} (e:s.isHeld id=false):s.at id=fm0:=by unfold Cs.at;rw[e];rfl
theorem cnt_le (n:Nat) (f:Nat→Int) (p:Int):cnt n f p≤n:=by
 induction n with
 | zero=>exact Int.le_refl _
 | succ n ih=>unfold cnt;split<;>omega
theorem at_of {w:Wk} (e:w.state=10∨w.state=12∨(w.state=11∧w.gWhy≠2)):atSt w=true:=by unfold atSt;simp only[decide_eq_true e,Bool.true_or]
theorem at_ne {T W:Int} {sI:Int→Int} {tk:Int→Int→Int→Int} {r:RC} {P:Int→Pc} {cn:Int→Int} {rg:Nat→Int} {pc:Int→Int→Int} (h:CI T W sI tk r P cn rg pc) {k:Nat} (hk:(k:Int) < W) {w:Wk} (e1:r.st k=w.state) (e2:r.th k=w.th) (ha:atSt w=true):r.ho k≠0:=by
 unfold atSt at ha;rcases Bool.or_eq_true _ _ ▸ ha with c|c
 ·have c:=of_decide_eq_true c;refine h.c3 k hk ?_ ?_
  ·rw[e1];rcases c with c|c|⟨c,_⟩<;>rw[c]<;>rfl
  ·rw[e1];rcases c with c|c|⟨c,_⟩<;>rw[c]<;>decide
 ·have c:=Bool.and_eq_true _ _ ▸ c;exact (h.c10c k hk (by rw[e1];exact of_decide_eq_true c.1) (by rw[e2];exact c.2)).1
theorem Be.inv (h:Be q m k n P H T cl cn rg pc) {y:WC} {R:RC} (hl:Len m.c y.2) (how:y.1.own=(wkAt m.l k).own)
  (hdq:DQI q.D (sD q) m.l.length (aDR q y.2 (m.l.set k y.1)) P' H' T' cl') (a:AgP P' R (aRC q y.2 (m.l.set k y.1))) (hci:CN q.T q.F.toNat m.l.length (sR q) tokF R P' cn' rg' pc')
  (hlim:R.S≤n+1∧∀id,(R.fr id).started≤n+1) (hta:∀d,y.1.dq=some d→inq d.nx=true→d.ta=q.base d.who+2)
  (hwh:∀d,y.1.dq=some d→y.1.state=1∨y.1.state=2∨y.1.state=3→0≤d.who∧d.who < q.W) (hvr:Vr q y.1)
  (hst:∀id,id≠(wkAt m.l k).holds→P id≠.free→(R.fr id).stage=((aRC q m.c m.l).fr id).stage) (hgs:atSt y.1=true→y.1.gStage=(R.fr y.1.holds).stage) (hwk:WkOk y.1) (har:ArI q.F y.2) (hfl:y.1.state=3→∀d,y.1.dq=some d→(d.full=true↔d.nx=.nil)):InvG q ⟨y.2,m.l.set k y.1⟩ P' H' T' cl' cn' rg' pc':=by
 have hcase:∀{j:Nat} {v:Wk},(m.l.set k y.1)[j]?=some v→(j=k∧v=y.1)∨(j≠k∧m.l[j]?=some v):=by
  intro j v hv;by_cases c:j=k
  ·subst c;rw[List.getElem?_set_self h.kl] at hv;cases hv;exact .inl ⟨rfl,rfl⟩
  ·rw[List.getElem?_set_ne (fun e=>c e.symm)] at hv;exact .inr ⟨c,hv⟩
 have hc:=hci.ofP a;have hn:=h.nn;have hsp:=hl.st.trans h.st;refine ⟨h.g.ok,by show (y.2.ws.length:Int)=_;rw[hl.ws];exact h.g.ws,by show y.2.held.length=y.2.fr.length;rw[hl.he,hl.fr];exact h.g.hl,by simpa using h.g.ln,fun v hv=>?_,fun j v hv=>?_,har,?_,?_,?_,?_,fun j v d hv hd hi=>?_,fun j v d hv hd hi=>?_,fun j v hv ha=>?_,fun j v hv=>?_,fun j v d hv hs3 hd=>?_,by rw[←h.g.ln];exact hci.hv.ofP hci.toCI a⟩
 ·rcases List.mem_or_eq_of_mem_set hv with hv|rfl
  ·exact h.g.wk v hv
  ·exact hwk
 ·rcases hcase hv with ⟨rfl,rfl⟩|⟨_,hv⟩
  ·rw[how];exact h.own
  ·exact h.g.ow j v hv
 ·refine ⟨by show 0≤y.2.steps;omega,by show y.2.steps≤_;omega,?_,fun id=>?_⟩
  ·have:=a.S;have h1:=hlim.1;show y.2.serial≤y.2.steps;have e:y.2.serial=R.S:=this;omega
  ·show (y.2.at id).started≤y.2.steps
   cases e:y.2.isHeld id with
   | false=>rw[at_nh e];show 0≤_;omega
   | true=>have e1:(feOf (y.2.at id)).started=(R.fr id).started:=congrArg Fe.started (a.fr id ((hc.f0 id).1 e));have e2:=hlim.2 id;have e3:(y.2.at id).started=(R.fr id).started:=e1;omega
 ·show DQI q.D (sD q) (m.l.set k y.1).length _ P' H' T' cl';rw[List.length_set];exact hdq
 ·rw[←h.g.ln];exact hc
 ·show NI q.F.toNat (m.l.set k y.1).length _ P' cn';rw[List.length_set];exact hci.ni.ofP a
 ·rcases hcase hv with ⟨rfl,rfl⟩|⟨_,hv⟩
  ·exact hta d hd hi
  ·exact h.g.ta j v d hv hd hi
 ·rcases hcase hv with ⟨rfl,rfl⟩|⟨_,hv⟩
  ·exact hwh d hd hi
  ·exact h.g.wh j v d hv hd hi
 ·rcases hcase hv with ⟨rfl,rfl⟩|⟨hjk,hv⟩
  ·have hne:y.1.holds=0∨P' y.1.holds≠.free:=by
    by_cases c:y.1.holds=0
    ·exact .inl c
    ·refine .inr fun e=>?_;have e1:(aRC q y.2 (m.l.set j y.1)).ho j=y.1.holds:=by show (wkAt _ j).holds=_;rw[Q71 h.kl,if_pos rfl]
     have:=hc.c1 j h.kW (by rw[e1];exact c);rw[e1,e] at this;cases this
   rw[hgs ha];rcases hne with e|e
   ·have ha':=ha;exfalso;have e1:(aRC q y.2 (m.l.set j y.1)).ho j=y.1.holds:=by show (wkAt _ j).holds=_;rw[Q71 h.kl,if_pos rfl]
    have e2:(aRC q y.2 (m.l.set j y.1)).st j=y.1.state:=by show (wkAt _ j).state=_;rw[Q71 h.kl,if_pos rfl]
    have e3:(aRC q y.2 (m.l.set j y.1)).th j=y.1.th:=by show (wkAt _ j).th=_;rw[Q71 h.kl,if_pos rfl]
    exact at_ne hc h.kW e2 e3 ha (by rw[e1];exact e)
   ·exact (congrArg Fe.stage (a.fr _ e)).symm
  ·have hv':=Qh hv;have ew:wkAt m.l j=v:=by unfold wkAt;rw[List.getD_eq_getElem?_getD,hv];rfl
   have hj:(j:Int) < (m.l.length:Int):=by omega
   have e0:=at_ne h.ci.toCI hj (by show (wkAt m.l j).state=v.state;rw[ew]) (by show (wkAt m.l j).th=v.th;rw[ew]) ha;have e1:(aRC q m.c m.l).ho j=v.holds:=by show (wkAt m.l j).holds=_;rw[ew]
   rw[e1] at e0;have p1:=h.ci.c1 j hj (by rw[e1];exact e0);rw[e1] at p1;have e2:(aRC q y.2 (m.l.set k y.1)).ho j=v.holds:=by show (wkAt _ j).holds=_;rw[Q71 h.kl,if_neg hjk,ew]
   have p2:=hc.c1 j hj (by rw[e2];exact e0);rw[e2] at p2;have e3:=hst v.holds (fun e=>by have p3:=h.ci.c1 k h.kW (by show (wkAt m.l k).holds≠0;rw[←e];exact e0);have p4:P (wkAt m.l k).holds=.own k _:=p3;rw[←e,p1] at p4;injection p4 with x;exact hjk x) (by rw[p1];exact fun e=>by cases e);have e4:(y.2.at v.holds).stage=(R.fr v.holds).stage:=congrArg Fe.stage (a.fr v.holds (by rw[p2];exact fun e=>by cases e));show v.gStage=(y.2.at v.holds).stage;rw[e4,e3];exact h.g.gs j v hv ha
 ·rcases hcase hv with ⟨rfl,rfl⟩|⟨_,hv⟩
  ·exact hvr
  ·exact h.g.vr j v hv
 ·rcases hcase hv with ⟨rfl,rfl⟩|⟨_,hv⟩
  ·exact hfl hs3 d hd
  ·exact h.g.fl j v d hv hs3 hd
theorem Be.to (h:Be q m k n P H T cl cn rg pc) {y:WC} {R:RC} (hl:Len m.c y.2) (how:y.1.own=(wkAt m.l k).own) (hT:∀j,T' j≤n+1) (htk:Tk m.l.length (aDR q y.2 (m.l.set k y.1)) (n+1))
  (hdq:DQI q.D (sD q) m.l.length (aDR q y.2 (m.l.set k y.1)) P' H' T' cl') (a:AgP P' R (aRC q y.2 (m.l.set k y.1))) (hci:CN q.T q.F.toNat m.l.length (sR q) tokF R P' cn' rg' pc')
  (hlim:R.S≤n+1∧∀id,(R.fr id).started≤n+1) (hta:∀d,y.1.dq=some d→inq d.nx=true→d.ta=q.base d.who+2)
  (hwh:∀d,y.1.dq=some d→y.1.state=1∨y.1.state=2∨y.1.state=3→0≤d.who∧d.who < q.W) (hvr:Vr q y.1)
  (hst:∀id,id≠(wkAt m.l k).holds→P id≠.free→(R.fr id).stage=((aRC q m.c m.l).fr id).stage) (hgs:atSt y.1=true→y.1.gStage=(R.fr y.1.holds).stage) (hfl:y.1.state=3→∀d,y.1.dq=some d→(d.full=true↔d.nx=.nil):=by intro e;first|omega|(dsimp only at e;omega)|cases e):Af q m k n y:=fun hwk har=>
 ⟨P',H',T',cl',cn',rg',pc',h.inv hl how hdq a hci hlim hta hwh hvr hst hgs hwk har hfl,hT,by rw[List.length_set];exact htk⟩
theorem st_new {f:Int→Fe} {P:Int→Pc} {id:Int} (hf:P id=.free) (v:Fe):∀x,P x≠.free→(updI f id v x).stage=(f x).stage:=by intro x hx;unfold updI;rw[if_neg];intro e;exact hx (by rw[e];exact hf)
theorem st_set (f:Int→Fe) (id:Int) {v:Fe} (h:v.stage=(f id).stage):∀x,(updI f id v x).stage=(f x).stage:=by
 intro x;unfold updI;split
 ·rename_i e;subst e;exact h
 ·rfl
theorem set_at {l:List Wk} {k:Nat} {w:Wk} (e:l[k]?=some w):l.set k w=l:=by
 apply List.ext_getElem?;intro i;rw[List.getElem?_set];by_cases c:k=i
 ·subst c;rw[if_pos rfl,e,if_pos (Qh e)]
 ·rw[if_neg c]
theorem Be.tk1 (h:Be q m k n P H T cl cn rg pc) {r:DR} (e1:r.sv=(aDR q m.c m.l).sv) (e2:r.nt=(aDR q m.c m.l).nt):Tk m.l.length r (n+1):=by intro j hj;have:=h.tk j hj;rw[e1,e2];exact this
theorem Be.sA (h:Be q m k n P H T cl cn rg pc) (st':Int) {y:WC} {R:RC} (hci:CN q.T q.F.toNat m.l.length (sR q) tokF R P' cn' rg' pc') (a:AgP P' R (aRC q y.2 (m.l.set k y.1)))
  (hdr:aDR q y.2 m.l=aDR q m.c m.l) (hP:∀id,P' id=P id∨nd (P id)=true) (hl:Len m.c y.2) (hlim:R.S≤n+1∧∀id,(R.fr id).started≤n+1)
  (h1:(wkAt m.l k).state≠1∧(wkAt m.l k).state≠2∧(wkAt m.l k).state≠3) (h2:st'≠1∧st'≠2∧st'≠3) (hvr:Vr q y.1) (e2:y.1.state=st':=by rfl)
  (how:y.1.own=(wkAt m.l k).own:=by rfl) (hd:y.1.dq=(wkAt m.l k).dq:=by rfl) (ht:y.1.tail=(wkAt m.l k).tail:=by rfl)
  (hst:∀id,id≠(wkAt m.l k).holds→P id≠.free→(R.fr id).stage=((aRC q m.c m.l).fr id).stage:=by intros;rfl) (hgs:atSt y.1=true→y.1.gStage=(R.fr y.1.holds).stage:=by intro h;cases h):Af q m k n y:=by
 rw[←e2] at h2;have e:aDR q y.2 (m.l.set k y.1)={ aDR q m.c m.l with st:=upd (aDR q m.c m.l).st k y.1.state }:=by rw[X41 h.kl,hdr,hd,ht];have e1:upd (aDR q m.c m.l).ta k (wkAt m.l k).tail=(aDR q m.c m.l).ta:=Qg _ _;have e2:upd (aDR q m.c m.l).dq k (dv (wkAt m.l k).dq)=(aDR q m.c m.l).dq:=Qg _ _;rw[e1,e2]
 refine h.to hl how h.tb (by rw[e];exact h.tk1 rfl rfl) (by rw[e];exact (h.g.dq.st h.kl _ h1 h2).chP (ndP hP)) a hci hlim (fun d hd' hi=>h.g.ta k _ d h.hw (hd ▸ hd') hi) (fun d _ hs=>by omega) hvr hst hgs (fun e=>by omega)
theorem Be.sB (h:Be q m k n P H T cl cn rg pc) (st':Int) {y:WC} {R:RC} (hci:CN q.T q.F.toNat m.l.length (sR q) tokF R P' cn' rg' pc') (a:AgP P' R (aRC q y.2 (m.l.set k y.1)))
  (hdr:aDR q y.2 m.l=aDR q m.c m.l) (hP:∀id,P' id=P id∨nd (P id)=true) (hl:Len m.c y.2) (hlim:R.S≤n∧∀id,(R.fr id).started≤n)
  (h1:(wkAt m.l k).state≠1∧(wkAt m.l k).state≠2∧(wkAt m.l k).state≠3) (h2:st'=10∨st'=12∨st'=4) (har:ArI q.F y.2) (e2:y.1.state=st':=by rfl)
  (how:y.1.own=(wkAt m.l k).own:=by rfl) (hd:y.1.dq=(wkAt m.l k).dq:=by rfl) (ht:y.1.tail=(wkAt m.l k).tail:=by rfl) (hpr:y.1.probed=(wkAt m.l k).probed:=by rfl)
  (hst:∀id,id≠(wkAt m.l k).holds→P id≠.free→(R.fr id).stage=((aRC q m.c m.l).fr id).stage:=by intros;rfl) (hgs:atSt y.1=true→y.1.gStage=(R.fr y.1.holds).stage:=by intro h;cases h):Be q ⟨y.2,m.l.set k y.1⟩ k n P' H T cl cn' rg' pc':=by
 have hn:=h.nn;have h3:y.1.state≠1∧y.1.state≠2∧y.1.state≠3:=by rw[e2];omega
 have e:aDR q y.2 (m.l.set k y.1)={ aDR q m.c m.l with st:=upd (aDR q m.c m.l).st k y.1.state }:=by rw[X41 h.kl,hdr,hd,ht];have e1:upd (aDR q m.c m.l).ta k (wkAt m.l k).tail=(aDR q m.c m.l).ta:=Qg _ _;have e2:upd (aDR q m.c m.l).dq k (dv (wkAt m.l k).dq)=(aDR q m.c m.l).dq:=Qg _ _;rw[e1,e2]
 have hi:=h.inv hl how (by rw[e];exact (h.g.dq.st h.kl _ h1 h3).chP (ndP hP)) a hci ⟨by omega,fun id=>by have:=hlim.2 id;omega⟩ (fun d hd' hi=>h.g.ta k _ d h.hw (hd ▸ hd') hi) (fun d _ hs=>by omega) (QL (s:=y.1.state) (by rw[e2];omega)) hst hgs (wk_of (by rw[e2];omega)) har (fun e=>by omega);refine ⟨hi,by rw[List.length_set];exact h.kl,h.nn,hl.st.trans h.st,?_,fun id=>?_,h.tb,?_,?_⟩
 ·have e3:y.2.serial=R.S:=a.S;show y.2.serial≤n;have:=hlim.1;omega
 ·show (y.2.at id).started≤n
  cases e3:y.2.isHeld id with
  | false=>rw[at_nh e3];show 0≤n;omega
  | true=>have e4:(feOf (y.2.at id)).started=(R.fr id).started:=congrArg Fe.started (a.fr id (((hci.ofP a).f0 id).1 e3));have e5:(y.2.at id).started=(R.fr id).started:=e4;have:=hlim.2 id;omega
 ·show Tk (m.l.set k y.1).length _ _;rw[List.length_set,e];exact h.tk1 rfl rfl
 ·show 0≤(wkAt (m.l.set k y.1) k).probed∧(wkAt (m.l.set k y.1) k).probed≤1000000;rw[Q71 h.kl,if_pos rfl,hpr];exact h.pr
theorem Be.on {y z:WC} (h:Be q m k n P H T cl cn rg pc) (e:Af q ⟨y.2,m.l.set k y.1⟩ k n z):Af q m k n z:=by intro a b;have:=e a b;dsimp only at this;rw[List.set_set] at this;exact this
theorem Be.at_ {y:WC} (h:Be q m k n P H T cl cn rg pc):wkAt (m.l.set k y.1) k=y.1:=by rw[Q71 h.kl,if_pos rfl]
theorem Be.sP (h:Be q m k n P H T cl cn rg pc) {y:WC} {R:RC} (hci:CN q.T q.F.toNat m.l.length (sR q) tokF R P' cn' rg' pc') (a:AgP P' R (aRC q y.2 (m.l.set k y.1)))
  (hdr:aDR q y.2 m.l=aDR q m.c m.l) (hP:∀id,P' id=P id∨nd (P id)=true) (hl:Len m.c y.2) (hlim:R.S≤n+1∧∀id,(R.fr id).started≤n+1)
  (h1:(wkAt m.l k).state≠1∧(wkAt m.l k).state≠2∧(wkAt m.l k).state≠3)
  (h2:y.1.state=2:=by rfl) (how:y.1.own=(wkAt m.l k).own:=by rfl) (hd:y.1.dq=some (dqPop (wkAt m.l k).own (wkAt m.l k).tail):=by rfl) (ht:y.1.tail=(wkAt m.l k).tail:=by rfl)
  (hst:∀id,id≠(wkAt m.l k).holds→P id≠.free→(R.fr id).stage=((aRC q m.c m.l).fr id).stage:=by intros;rfl) : Af q m k n y:=by
 have hr:=h.g.dq.rg k h.kl;have ho1:(wkAt m.l k).tail=T k:=h.g.dq.o1 k h.kl h1.2.1;have hTn:=h.tb k;have hn:=h.nn;have hown:=h.own;have e:aDR q y.2 (m.l.set k y.1)={ aDR q m.c m.l with st:=upd (aDR q m.c m.l).st k 2,dq:=upd (aDR q m.c m.l).dq k (dv (some (dqPop (wkAt m.l k).own (wkAt m.l k).tail))) }:=by rw[X41 h.kl,hdr,hd,ht,h2];have e1:upd (aDR q m.c m.l).ta k (wkAt m.l k).tail=(aDR q m.c m.l).ta:=Qg _ _;rw[e1]
 refine h.to hl how h.tb (by rw[e];exact h.tk1 rfl rfl) (by rw[e];exact (h.g.dq.begPop h.kl h1 (by show (wkAt m.l k).own.toNat=k;omega) (by show clT (wkAt m.l k).tail=(wkAt m.l k).tail;unfold clT;omega) rfl rfl).chP (ndP hP)) a hci hlim (fun d hd' hi=>?_) (fun d hd' _=>?_) (QL (s:=y.1.state) (by rw[h2];decide)) hst (fun ha=>by unfold atSt at ha;rw[h2] at ha;cases ha) (fun e=>by omega)
 ·rw[hd] at hd';cases hd';cases hi
 ·rw[hd] at hd';cases hd';have:=h.kq;show 0≤(wkAt m.l k).own∧(wkAt m.l k).own < q.W;omega
theorem Be.sU (h:Be q m k n P H T cl cn rg pc) {y:WC} {R:RC} {id:Int} (hci:CN q.T q.F.toNat m.l.length (sR q) tokF R P' cn' rg' pc') (a:AgP P' R (aRC q y.2 (m.l.set k y.1)))
  (hdr:aDR q y.2 m.l=aDR q m.c m.l) (hP:∀id,P' id=P id∨nd (P id)=true) (hl:Len m.c y.2) (hlim:R.S≤n+1∧∀id,(R.fr id).started≤n+1)
  (h1:(wkAt m.l k).state≠1∧(wkAt m.l k).state≠2∧(wkAt m.l k).state≠3) (hd:y.1.dq=some (dqPush (wkAt m.l k).own (wkAt m.l k).tail id))
  (h2:y.1.state=3:=by rfl) (how:y.1.own=(wkAt m.l k).own:=by rfl) (ht:y.1.tail=(wkAt m.l k).tail:=by rfl)
  (hst:∀id,id≠(wkAt m.l k).holds→P id≠.free→(R.fr id).stage=((aRC q m.c m.l).fr id).stage:=by intros;rfl) (hgs:atSt y.1=true→y.1.gStage=(R.fr y.1.holds).stage:=by intro h;cases h):Af q m k n y:=by
 have hr:=h.g.dq.rg k h.kl;have ho1:(wkAt m.l k).tail=T k:=h.g.dq.o1 k h.kl h1.2.1;have hTn:=h.tb k;have hn:=h.nn;have hown:=h.own;have e:aDR q y.2 (m.l.set k y.1)={ aDR q m.c m.l with st:=upd (aDR q m.c m.l).st k 3,dq:=upd (aDR q m.c m.l).dq k (dv (some (dqPush (wkAt m.l k).own (wkAt m.l k).tail id))) }:=by rw[X41 h.kl,hdr,hd,ht,h2];have e1:upd (aDR q m.c m.l).ta k (wkAt m.l k).tail=(aDR q m.c m.l).ta:=Qg _ _;rw[e1]
 refine h.to hl how h.tb (by rw[e];exact h.tk1 rfl rfl) (by rw[e];exact (h.g.dq.begPush h.kl h1 (by show (wkAt m.l k).own.toNat=k;omega) (by show clT (wkAt m.l k).tail=(wkAt m.l k).tail;unfold clT;omega) rfl).chP (ndP hP)) a hci hlim (fun d hd' hi=>?_) (fun d hd' _=>?_) (QL (s:=y.1.state) (by rw[h2];decide)) hst hgs (fun _ d hd'=>by rw[hd] at hd';cases hd';exact ⟨fun e=>(by cases e),fun e=>(by cases e)⟩)
 ·rw[hd] at hd';cases hd';cases hi
 ·rw[hd] at hd';cases hd';have:=h.kq;show 0≤(wkAt m.l k).own∧(wkAt m.l k).own < q.W;omega
theorem Be.c (h:Be q m k n P H T cl cn rg pc) {s':Cs} (e1:aRC q s' m.l=aRC q m.c m.l) (e2:aDR q s' m.l=aDR q m.c m.l) (hl:Len m.c s') (ar:ArI q.F s'):Be q ⟨s',m.l⟩ k n P H T cl cn rg pc:=by
 have hn:=h.nn;have es:s'.serial=m.c.serial:=congrArg RC.S e1;have ef:∀id,(s'.at id).started=(m.c.at id).started:=fun id=>congrArg Fe.started (congrFun (congrArg RC.fr e1) id);have hst:=hl.st.trans h.st;refine ⟨⟨h.g.ok,by show (s'.ws.length:Int)=_;rw[hl.ws];exact h.g.ws,by show s'.held.length=s'.fr.length;rw[hl.he,hl.fr];exact h.g.hl,h.g.ln,h.g.wk,h.g.ow,ar,?_,?_,?_,?_,h.g.ta,h.g.wh,fun j v hv ha=>?_,h.g.vr,h.g.fl,by show HV _ _ _ (aRC q s' m.l) _;rw[e1];exact h.g.hv⟩,h.kl,h.nn,hst,by rw[es];exact h.sr,fun id=>by rw[ef];exact h.sd id,h.tb,?_,h.pr⟩
 ·refine ⟨by show 0≤s'.steps;omega,by show s'.steps≤_;omega,by show s'.serial≤s'.steps;have:=h.sr;omega,fun id=>?_⟩;show (s'.at id).started≤s'.steps;rw[ef];have:=h.sd id;omega
 ·show DQI _ _ _ (aDR q s' m.l) _ _ _ _;rw[e2];exact h.g.dq
 ·show CI _ _ _ _ (aRC q s' m.l) _ _ _ _;rw[e1];exact h.g.ci
 ·show NI _ _ (aRC q s' m.l) _ _;rw[e1];exact h.g.ni
 ·rw[h.g.gs j v hv ha];exact congrArg Fe.stage (congrFun (congrArg RC.fr e1) v.holds).symm
 ·show Tk _ (aDR q s' m.l) _;rw[e2];exact h.tk
theorem Be.nop (h:Be q m k n P H T cl cn rg pc) {s':Cs} (e1:aRC q s' m.l=aRC q m.c m.l) (e2:aDR q s' m.l=aDR q m.c m.l) (hl:Len m.c s'):Af q m k n (wkAt m.l k,s'):=by intro _ har;have h':=h.c e1 e2 hl har;have es:m.l.set k (wkAt m.l k)=m.l:=set_at h.hw;dsimp only;rw[es];exact ⟨P,H,T,cl,cn,rg,pc,h'.g,h'.tb,h'.tk1 rfl rfl⟩
theorem dr_J (ok:q.Ok) {s:Cs} {l:List Wk} (hw:(s.ws.length:Int)=q.size) {id:Int} (hid:1≤id∧id≤q.F) (v:Int):aDR q (s.setW (stW s.ws (q.frame id) v)) l=aDR q s l:=by rw[ZB hid];exact dr_f ok hw (okf hid ok (Int.le_refl 0) (by have:=ok.room_in;omega)) v
theorem dr_nap (ok:q.Ok) {s:Cs} {l:List Wk} (hw:(s.ws.length:Int)=q.size) {id:Int} (hid:1≤id∧id≤q.F) (v:Int):aDR q (s.setW (stW s.ws (q.nap id) v)) l=aDR q s l:=by rw[Y78 hid];exact dr_f ok hw (okf hid ok ka (by have:=ok.room_in;omega)) v
theorem dr_wd (ok:q.Ok) {s:Cs} {l:List Wk} (hw:(s.ws.length:Int)=q.size) {id:Int} (hid:1≤id∧id≤q.F) (it:Int) {i:Int} (h0:0≤i) (h3:i≤3) (v:Int):aDR q (s.setW (stW s.ws (q.word id it i) v)) l=aDR q s l:=by rw[Z62 hid];exact dr_f ok hw (okw hid ok it h0 h3) v
theorem J_ld (ok:q.Ok) {s:Cs} {l:List Wk} {id:Int} (hid:1≤id∧id≤q.F):ldW s.ws (q.frame id)=(aRC q s l).J id:=by show _=lw q s.ws (.f id 0);rw[Y79 (okf hid ok (Int.le_refl 0) (by have:=ok.room_in;omega)),ZB hid]
theorem nap_ld (ok:q.Ok) {s:Cs} {l:List Wk} {id:Int} (hid:1≤id∧id≤q.F):ldW s.ws (q.nap id)=(aRC q s l).nap id:=by show _=lw q s.ws (.f id 1);rw[Y79 (okf hid ok ka (by have:=ok.room_in;omega)),Y78 hid]
theorem wd_ld (ok:q.Ok) {s:Cs} {id:Int} (hid:1≤id∧id≤q.F) (it:Int) {i:Int} (h0:0≤i) (h3:i≤3):ldW s.ws (q.word id it i)=lw q s.ws (.f id (2+4 * sR q it+i)):=by rw[Y79 (okw hid ok it h0 h3),Z62 hid]
theorem sw_ld (ok:q.Ok) {s:Cs} {l:List Wk} {id:Int} (hid:1≤id∧id≤q.F) (it:Int):ldW s.ws (q.word id it 1)=(aRC q s l).sw id (sR q it):=by rw[wd_ld ok hid it ka ka];exact (if_pos (sR_in ok it).1).symm
theorem lk_ld (ok:q.Ok) {s:Cs} {l:List Wk} {id:Int} (hid:1≤id∧id≤q.F) (it:Int):ldW s.ws (q.word id it 2)=(aRC q s l).lk id (sR q it):=by rw[wd_ld ok hid it ka ka];exact (if_pos (sR_in ok it).1).symm
theorem dn_ld (ok:q.Ok) {s:Cs} {l:List Wk} {id:Int} (hid:1≤id∧id≤q.F) (it:Int):ldW s.ws (q.word id it 3)=(aRC q s l).dn id (sR q it):=by rw[wd_ld ok hid it ka ka];exact (if_pos (sR_in ok it).1).symm
theorem Be.Jb (h:Be q m k n P H T cl cn rg pc) {id:Int} (hp:P id≠.free):(aRC q m.c m.l).J id=tokc (P id)+cn id∧0≤cn id∧cn id≤1000:=by have hi:=h.inF hp;have e:=h.g.ni.n id ka;have a1:=cnt_le q.F.toNat (fun i=>chF (aRC q m.c m.l) P ((i:Int)+1)) id;have a2:=cnt_le m.l.length (chW (aRC q m.c m.l)) id;have a3:=h.g.ni.nn (p:=id) ka;have a4:=h.g.ok.1;have a5:=h.g.ok.2.2.1;have a6:=h.g.ln;unfold CNT at e;exact ⟨h.g.ci.h2 id hp,a3,by omega⟩
theorem Jg (p:Pc):0≤tokc p∧tokc p≤1:=by unfold tokc;split<;>omega
theorem Be.jl (h:Be q m k n P H T cl cn rg pc) {id:Int} (hp:P id≠.free):joinLeave m.c.ws (q.frame id)=(decide ((aRC q m.c m.l).J id=1),stW m.c.ws (q.frame id) ((aRC q m.c m.l).J id - 1)):=by have ⟨e,e1,e2⟩:=h.Jb hp;have e3:=Jg (P id);unfold joinLeave addW;rw[J_ld (l:=m.l) h.g.ok (h.inF hp),Q52 ka ka];rfl
theorem Be.ja (h:Be q m k n P H T cl cn rg pc) {id:Int} (hp:P id≠.free):addW m.c.ws (q.frame id) 1=stW m.c.ws (q.frame id) ((aRC q m.c m.l).J id+1):=by have ⟨e,e1,e2⟩:=h.Jb hp;have e3:=Jg (P id);unfold addW;rw[J_ld (l:=m.l) h.g.ok (h.inF hp),Q52 ka ka]
theorem Y16 {a b c:Int} (h1:1≤a):tokF a b c≠0:=by unfold tokF heldT;omega
theorem Jh {a b c a' b' c':Int} (h1:0≤a) (h2:a < 1000000) (h3:0≤b) (h4:b < 1000000) (h5:0≤c) (h6:c < 1048576) (k1:0≤a') (k2:a' < 1000000) (k3:0≤b') (k4:b' < 1000000) (k5:0≤c') (k6:c' < 1048576)
  (e:tokF a b c=tokF a' b' c'):a=a'∧b=b'∧c=c':=by
 unfold tokF heldT at e;omega
end
variable {T:Int} {F W:Nat} {sI:Int→Int} {tk:Int→Int→Int→Int} {r:RC} {P:Int→Pc} {cn:Int→Int} {rg:Nat→Int} {pc:Int→Int→Int}
set_option maxHeartbeats 40000000 in
theorem CN.spawn (h:CN T F W sI tk r P cn rg pc) {k:Nat} (hk:(k:Int) < (W:Int)) (h1:r.st k=6):
  CN T F W sI tk { r with st:=upd r.st k (3),px:=upd r.px k (r.ho k),th:=upd r.th k (.runs (r.ot k)),J:=updI r.J (r.ho k) (r.J (r.ho k)+1) } (updI P (r.ot k) (.own k .oth)) (updI cn (r.ho k) (cn (r.ho k)+1)) rg pc:=by
 have e0:r.ho k≠0:=h.c3 k hk eE eE;have p0:P (r.ho k)=.own k .hold:=by rw[h.c1 k hk e0,h1];simp[ht]
 have p1:=h.c16 k hk;obtain ⟨q1,q2,q3,q4,q5⟩:=h.c7 k hk h1
 exact {
  ni:=by have z0:=h.c1 k hk;have z1:=h.c3 k hk;refine h.ni.id1 (a:=(r.ot k)) (h.ni.b _ (by grind)) (fun i hi=>by (grind (splits:=40))) (fun j=>by (grind (splits:=40))) (fun i=>by (have a0:=h.f0b;have a1:=h.ni.b;grind (splits:=40))) (fun p hp=>by (grind (splits:=40)))}
set_option maxHeartbeats 40000000 in
theorem CN.pushRuns (h:CN T F W sI tk r P cn rg pc) {k:Nat} (hk:(k:Int) < (W:Int)) (h1:r.st k=3) {id:Int} (ht0:r.th k=.runs id) {j:Nat} {n:Int}:
  CN T F W sI tk { r with st:=upd r.st k (4),ho:=upd r.ho k (id) } (updI (updI P (r.px k) (.deq j n)) id (.own k .hold)) cn rg pc:=by
 obtain ⟨q1,q2,q3,q4,q5,q6,q7⟩:=h.c10 k hk h1 id ht0;have p0:P (r.ho k)=.own k .hold:=by rw[h.c1 k hk q1,h1];simp[ht]
 exact {}
set_option maxHeartbeats 40000000 in
theorem CN.arriveLast (h:CN T F W sI tk r P cn rg pc) {k:Nat} (hk:(k:Int) < (W:Int)) (h1:r.st k=7) (hJ:r.J (r.ot k)=1) (hp:P (r.ot k)=.sync) (hc:cn (r.ot k)=1):
  CN T F W sI tk { r with st:=upd r.st k (8),J:=updI r.J (r.ot k) (r.J (r.ot k) - 1) } (updI P (r.ot k) (.own k .jn)) (updI cn (r.ot k) 0) rg pc:=by
 have p1:=h.c9 k hk h1;have p3:=h.c2 k hk eE
 exact {
  ni:=by have z0:=h.c1 k hk;have z1:=h.c3 k hk;refine h.ni.w1 (a:=k) ka (fun i=>by (grind (splits:=40))) (fun j hj=>by (grind (splits:=40))) (fun i=>by (have a0:=h.f0b;have a1:=h.ni.b;grind (splits:=40))) (fun p hp=>by (grind (splits:=40)))}
set_option maxHeartbeats 40000000 in
theorem CN.arriveNot (h:CN T F W sI tk r P cn rg pc) {k:Nat} (hk:(k:Int) < (W:Int)) (h1:r.st k=7) (hc:1≤cn (r.ot k)):
  CN T F W sI tk { r with st:=upd r.st k (2),J:=updI r.J (r.ot k) (r.J (r.ot k) - 1) } P (updI cn (r.ot k) (cn (r.ot k) - 1)) rg pc:=by
 have p1:=h.c9 k hk h1;have p3:=h.c2 k hk eE
 exact {
  ni:=by have z0:=h.c1 k hk;have z1:=h.c3 k hk;refine h.ni.w1 (a:=k) ka (fun i=>by (grind (splits:=40))) (fun j hj=>by (grind (splits:=40))) (fun i=>by (have a0:=h.f0b;have a1:=h.ni.b;grind (splits:=40))) (fun p hp=>by (grind (splits:=40)))}
set_option maxHeartbeats 40000000 in
theorem CN.resume (h:CN T F W sI tk r P cn rg pc) {k:Nat} (hk:(k:Int) < (W:Int)) (h1:r.st k=8):
  CN T F W sI tk { r with st:=upd r.st k (4),ho:=upd r.ho k (r.ot k),J:=updI r.J (r.ot k) 1,fr:=updI r.fr (r.ot k) { r.fr (r.ot k) with dirty:=false } } (updI P (r.ot k) (.own k .hold)) cn rg pc:=by
 obtain ⟨p0,p1,p2⟩:=h.c8 k hk h1;have p3:=h.c2 k hk eE;have p4:=h.g7 _ _ p0;have d0:∀i,(updI r.fr (r.ot k) { r.fr (r.ot k) with dirty:=false } i).kind=(r.fr i).kind:=fun i=>by simp only[updI];split<;>simp_all
 have d1:∀i,(updI r.fr (r.ot k) { r.fr (r.ot k) with dirty:=false } i).parent=(r.fr i).parent:=fun i=>by simp only[updI];split<;>simp_all
 have d2:∀i,(updI r.fr (r.ot k) { r.fr (r.ot k) with dirty:=false } i).index=(r.fr i).index:=fun i=>by simp only[updI];split<;>simp_all
 have d3:∀i,(updI r.fr (r.ot k) { r.fr (r.ot k) with dirty:=false } i).stage=(r.fr i).stage:=fun i=>by simp only[updI];split<;>simp_all
 have d4:∀i,(updI r.fr (r.ot k) { r.fr (r.ot k) with dirty:=false } i).started=(r.fr i).started:=fun i=>by simp only[updI];split<;>simp_all
 have d5:∀i,(updI r.fr (r.ot k) { r.fr (r.ot k) with dirty:=false } i).serial=(r.fr i).serial:=fun i=>by simp only[updI];split<;>simp_all
 have yc1:=h.c1
 exact {
  c7:=by (try dsimp only);clear yc1;have a0:=h.c7;have a1:=h.c1;have a2:=h.c3;(try simp only[d0,d1,d2,d3,d4,d5]);grind (splits:=40)
  c10:=by (try dsimp only);clear yc1;have a0:=h.c10;have a1:=h.c1;(try simp only[d0,d1,d2,d3,d4,d5]);grind (splits:=40)
  c10c:=by (try dsimp only);clear yc1;have a0:=h.c10c;have a1:=h.c1;(try simp only[d0,d1,d2,d3,d4,d5]);grind (splits:=40)}
set_option maxHeartbeats 40000000 in
theorem CN.adv0 (h:CN T F W sI tk r P cn rg pc) {k:Nat} (hk:(k:Int) < (W:Int)) (h1:r.st k=9) (h2:(r.fr (r.ho k)).stage=0):
  CN T F W sI tk { r with st:=upd r.st k (3),px:=upd r.px k ((r.fr (r.ho k)).parent),th:=upd r.th k (.looksOn),fr:=updI r.fr (r.ho k) { r.fr (r.ho k) with stage:=r.gS k },pas:=updB r.pas (r.fr (r.fr (r.ho k)).parent).serial (r.fr (r.ho k)).index } (updI P (r.fr (r.ho k)).parent (.own k .psh)) cn rg pc:=by
 have e0:r.ho k≠0:=h.c3 k hk eE eE;have p0:P (r.ho k)=.own k .hold:=by rw[h.c1 k hk e0,h1];simp[ht]
 have p1:=h.c16b k hk;have p2:=h.c15 k hk h1;have p3:=h.f9 (r.ho k);have p4:=h.f2 (r.ho k);have p5:=h.f0b (r.fr (r.ho k)).parent
 exact {
  c15:=by (try dsimp only);have a0:=h.c15;have a1:=h.c1;have a2:=h.c3;grind (splits:=40)
  c17:=by (try dsimp only);have a0:=h.c17;have a1:=h.c1;have a2:=h.c3;grind (splits:=40)}
set_option maxHeartbeats 40000000 in
theorem CN.adv1 (h:CN T F W sI tk r P cn rg pc) {k:Nat} (hk:(k:Int) < (W:Int)) (h1:r.st k=9) (h2:(r.fr (r.ho k)).stage≠0):
  CN T F W sI tk { r with st:=upd r.st k (10),fr:=updI r.fr (r.ho k) { r.fr (r.ho k) with stage:=r.gS k },pas:=updB r.pas (r.fr (r.fr (r.ho k)).parent).serial (r.fr (r.ho k)).index } P cn rg pc:=by
 have e0:r.ho k≠0:=h.c3 k hk eE eE;have p0:P (r.ho k)=.own k .hold:=by rw[h.c1 k hk e0,h1];simp[ht]
 have p1:=h.c16b k hk;have p2:=h.c15 k hk h1;have p3:=h.f5 (r.ho k)
 exact {
  c15:=by (try dsimp only);have a0:=h.c15;have a1:=h.c1;have a2:=h.c3;grind (splits:=40)}
set_option maxHeartbeats 40000000 in
theorem CN.checks (h:CN T F W sI tk r P cn rg pc) {k:Nat} (hk:(k:Int) < (W:Int)) (h1:r.st k=10∨r.st k=12) (y z9:Int) (hy:y=0∨y=1):
  CN T F W sI tk { r with st:=upd r.st k (11),gy:=upd r.gy k (y),rt:=upd r.rt k (⟨⟨(r.fr (r.ho k)).parent,(r.fr (r.fr (r.ho k)).parent).serial⟩,(r.fr (r.ho k)).index+1,z9,0,0,0,false⟩) } P cn rg pc:=by
 have p1:=h.c16b k hk;exact {}
set_option maxHeartbeats 40000000 in
theorem CN.checks2 (h:CN T F W sI tk r P cn rg pc) {k:Nat} (hk:(k:Int) < (W:Int)) (h1:r.st k=14) (z9:Int):
  CN T F W sI tk { r with st:=upd r.st k (11),gy:=upd r.gy k (2),fin:=updB r.fin (r.fr (r.fr (r.ho k)).parent).serial (r.fr (r.ho k)).index,pas:=updB r.pas (r.fr (r.fr (r.ho k)).parent).serial (r.fr (r.ho k)).index,rt:=upd r.rt k (⟨⟨(r.fr (r.ho k)).parent,(r.fr (r.fr (r.ho k)).parent).serial⟩,(r.fr (r.ho k)).index+1,z9,0,0,0,false⟩) } P cn rg pc:=by
 have p1:=h.c16b k hk;exact {}
set_option maxHeartbeats 40000000 in
theorem CN.after (h:CN T F W sI tk r P cn rg pc) {k:Nat} (hk:(k:Int) < (W:Int)) (h1:r.st k=10∨r.st k=12∨(r.st k=11∧r.gy k≠2)) (s:Int) (h2:s=4∨s=12):
  CN T F W sI tk { r with st:=upd r.st k (s) } P cn rg pc:=by
 have p1:=h.c16b k hk;exact {}
set_option maxHeartbeats 40000000 in
theorem CN.park (h:CN T F W sI tk r P cn rg pc) {k:Nat} (hk:(k:Int) < (W:Int)) (h1:r.st k=11∨r.st k=12) (hS:r.S < 1000000):
  CN T F W sI tk { r with st:=upd r.st k (13),ho:=upd r.ho k (0),ot:=upd r.ot k (r.ho k),pk:=upd r.pk k (⟨⟨(r.fr (r.ho k)).parent,(r.fr (r.fr (r.ho k)).parent).serial⟩,(r.fr (r.ho k)).index,(r.fr (r.ho k)).stage,0,false⟩) } (updI P (r.ho k) (.own k .oth)) cn rg pc:=by
 have p1:=h.c16b k hk;have e0:r.ho k≠0:=h.c3 k hk (by rcases h1 with h1|h1<;>rw[h1]<;>decide) ka;have p0:P (r.ho k)=.own k .hold:=by rw[h.c1 k hk e0];rcases h1 with h1|h1<;>rw[h1]<;>simp[ht]
 have p2:=h.f2 (r.ho k);have p3:=h.f5 (r.ho k);have p4:=h.f3 (r.fr (r.ho k)).parent;have p5:=h.f5 (r.fr (r.ho k)).parent
 exact {
  c5c:=by (try dsimp only);have a0:=h.c5c;have a1:=h.f6;grind (splits:=40)}
set_option maxHeartbeats 40000000 in
theorem CN.park0 (h:CN T F W sI tk r P cn rg pc) {k:Nat} (hk:(k:Int) < (W:Int)) (h1:r.st k=13) (hn:(r.pk k).next=0):
  CN T F W sI tk { r with sw:=upd2 r.sw (r.pk k).r.id (sI (r.pk k).it) (tk (r.pk k).r.serial (r.pk k).it (r.pk k).stage),pk:=upd r.pk k ({ r.pk k with next:=1 }) } (updI P (r.ot k) (.parked)) cn rg (upd2 pc (r.pk k).r.id (sI (r.pk k).it) (r.ot k)):=by
 have p1:=h.c5 k hk h1 hn;have p2:=h.c5e k hk h1;exact {}
set_option maxHeartbeats 40000000 in
theorem CN.park1 (h:CN T F W sI tk r P cn rg pc) {k:Nat} (hk:(k:Int) < (W:Int)) (h1:r.st k=13) (hn:(r.pk k).next=1):
  CN T F W sI tk { r with pk:=upd r.pk k ({ r.pk k with next:=2 }) } P cn rg pc:={}
set_option maxHeartbeats 40000000 in
theorem CN.parkGo (h:CN T F W sI tk r P cn rg pc) {k:Nat} (hk:(k:Int) < (W:Int)) (h1:r.st k=13) (hn:(r.pk k).next≠0):
  CN T F W sI tk { r with st:=upd r.st k (2) } P cn rg pc:=by
 have p3:=h.c2 k hk eE;exact {}
set_option maxHeartbeats 40000000 in
theorem CN.park2 (h:CN T F W sI tk r P cn rg pc) {k:Nat} (hk:(k:Int) < (W:Int)) (h1:r.st k=13) (hp:P (r.ot k)=.parked) (hq:(r.fr (r.ot k)).parent=(r.pk k).r.id) (hx:sI (r.fr (r.ot k)).index=sI (r.pk k).it):
  CN T F W sI tk { r with st:=upd r.st k (4),ho:=upd r.ho k (r.ot k),sw:=upd2 r.sw (r.pk k).r.id (sI (r.pk k).it) 0 } (updI P (r.ot k) (.own k .hold)) cn rg pc:=by
 have p1:=h.g1 _ hp;have p2:=h.c5e k hk h1;exact {}
set_option maxHeartbeats 40000000 in
theorem CN.chk0 (h:CN T F W sI tk r P cn rg pc) {k:Nat} (hk:(k:Int) < (W:Int)) (h1:r.st k=11) (hn:(r.rt k).next=0) (v:Int) (hv:0≤v∧v < 1048576):
  CN T F W sI tk { r with rt:=upd r.rt k ({ r.rt k with next:=1,stage:=v }) } P cn rg pc:={}
set_option maxHeartbeats 40000000 in
theorem CN.chk1 (h:CN T F W sI tk r P cn rg pc) {k:Nat} (hk:(k:Int) < (W:Int)) (h1:r.st k=11) {c:Int} (hp:P c=.parked) (hq:(r.fr c).parent=(r.rt k).r.id) (hx:(r.fr c).index=(r.rt k).it):
  CN T F W sI tk { r with sw:=upd2 r.sw (r.rt k).r.id (sI (r.rt k).it) 0,rt:=upd r.rt k ({ r.rt k with next:=2 }) } (updI P c (.own k .rgt)) cn (upd rg k c) pc:=by
 have p1:=h.g1 _ hp;have p2:=h.f0b c;exact {}
end Go.Proofs.YtelibaobkcokdaaGreat.Mx.In
