/- The machine's invariant: a step of a deque's walk. -/
import Derived.Test.YtelibaobkcokdaaGreatTH2G29
namespace Go.Proofs.YtelibaobkcokdaaGreat.Mx.In
set_option linter.unusedSectionVars false
set_option linter.unusedVariables false
set_option linter.unusedSimpArgs false
open Go Go.Kx Go.Proofs Go.Proofs.YtelibaobkcokdaaGreat Go.Proofs.YtelibaobkcokdaaGreat.Mx
set_option linter.unusedSectionVars false
section
variable {q:Pm} {s s':Cs} {l:List Wk} {k:Nat} {w:Wk} {P:Int→Pc} {cn:Int→Int} {rg:Nat→Int} {pc:Int→Int→Int} {W':Nat}
theorem agr_dq (hk:k < l.length) (hw:wkAt l k=w) (d:Option Dq) (hx:w.state=3→(dv d).x=(dv w.dq).x) (hrc:aRC q s' l=aRC q s l):Agr (aRC q s l) (aRC q s' (l.set k { w with dq:=d })):=by
 subst hw;rw[Qq hk,hrc];constructor<;>try rfl
 ·exact Qg _ _
 ·exact Qg _ _
 ·intro j hj;show upd _ k _ j=_;unfold upd;split
  ·rename_i e;subst e;exact hx hj
  ·rfl
 all_goals (intro j _;exact congrFun (Qg _ _) j)
theorem dr_dq (hk:k < l.length) (hw:wkAt l k=w) (d:Option Dq):aDR q s (l.set k { w with dq:=d })={ aDR q s l with dq:=upd (aDR q s l).dq k (dv d) }:=by subst hw;rw[X41 hk];have e1:upd (aDR q s l).st k (wkAt l k).state=(aDR q s l).st:=Qg _ _;have e2:upd (aDR q s l).ta k (wkAt l k).tail=(aDR q s l).ta:=Qg _ _;show ({ aDR q s l with st:=upd (aDR q s l).st k (wkAt l k).state,ta:=upd (aDR q s l).ta k (wkAt l k).tail,dq:=upd (aDR q s l).dq k (dv d) }:DR)=_;rw[e1,e2]
theorem ni_dq {F:Nat} (h:NI F W' (aRC q s l) P cn) (hk:k < l.length) (hw:wkAt l k=w) (d:Option Dq) (hrc:aRC q s' l=aRC q s l):NI F W' (aRC q s' (l.set k { w with dq:=d })) P cn:=by
 subst hw;refine h.same (fun id=>?_) (fun j=>?_) h.b
 ·rw[Qq hk,hrc];rfl
 ·rw[Qq hk,hrc];show (if upd _ k _ j=7 then upd _ k _ j else 0)=chW (aRC q s l) j;unfold upd;split
  ·rename_i e;subst e;rfl
  ·rfl
theorem InvG.walk {m:Mc} {H T H' T':Nat→Int} {cl cl':Nat→Nat} {P':Int→Pc} (h:InvG q m P H T cl cn rg pc) (hw:m.l[k]?=some w) (d':Dq) (ws':List Int) (hlen:ws'.length=m.c.ws.length) (hrc:aRC q (m.c.setW ws') m.l=aRC q m.c m.l)
  (hx:w.state=3→d'.x=(dv w.dq).x) (hta:inq d'.nx=true→d'.ta=q.base d'.who+2) (hwh:w.state=1∨w.state=2∨w.state=3→0≤d'.who∧d'.who < q.W)
  (hP:∀id,P' id=P id∨((∃j n,P id=.deq j n)∨∃i,P id=.own i .got)∧((∃j n,P' id=.deq j n)∨∃i,P' id=.own i .got))
  (hdq:DQI q.D (sD q) m.l.length { aDR q (m.c.setW ws') m.l with dq:=upd (aDR q m.c m.l).dq k (dv (some d')) } P' H' T' cl') (hfl:w.state=3→(d'.full=true↔d'.nx=.nil):=by intro e;omega):
  InvG q ⟨m.c.setW ws',m.l.set k { w with dq:=some d' }⟩ P' H' T' cl' cn rg pc:=by
 have hk:=Qh hw;have hwk:wkAt m.l k=w:=by unfold wkAt;rw[List.getD_eq_getElem?_getD,hw];rfl
 have hmem:=List.mem_of_getElem? hw;have hself:(m.l.set k { w with dq:=some d' })[k]?=some { w with dq:=some d' }:=List.getElem?_set_self hk
 have hcase:∀{j:Nat} {v:Wk},(m.l.set k { w with dq:=some d' })[j]?=some v→(j=k∧v={ w with dq:=some d' })∨(j≠k∧m.l[j]?=some v):=by
  intro j v hv;by_cases c:j=k
  ·subst c;rw[hself] at hv;cases hv;exact .inl ⟨rfl,rfl⟩
  ·rw[List.getElem?_set_ne (fun e=>c e.symm)] at hv;exact .inr ⟨c,hv⟩
 refine ⟨h.ok,by rw[←h.ws];show ((ws'.length:Nat):Int)=_;rw[hlen],h.hl,by simpa using h.ln,fun v hv=>?_,fun j v hv=>?_,⟨h.ar.f,h.ar.hl,h.ar.h0,h.ar.nd,h.ar.bk,h.ar.fr,h.ar.ab,h.ar.pk⟩,h.lim,?_,?_,?_,fun j v d hv hd hi=>?_,fun j v d hv hd hi=>?_,fun j v hv ha=>?_,fun j v hv=>?_,fun j v d hv hs3 hd=>?_,(h.hv.mv fun id=>by rcases hP id with e|⟨⟨j,n,e⟩|⟨i,e⟩,_⟩;{ exact .inl e };all_goals exact .inr ⟨(by rw[e];exact fun x=>(by cases x)),fun c=>(by rw[e];exact fun x=>(by cases x))⟩).ofA (h.ci.mvDG hP) (agr_dq hk hwk (some d') hx hrc)⟩
 ·rcases List.mem_or_eq_of_mem_set hv with hv|rfl
  ·exact h.wk v hv
  ·obtain ⟨a0,a1,a2,a3,a4,a5,a6⟩:=h.wk w hmem;exact ⟨a0,fun _=>⟨d',rfl⟩,a2,a3,a4,a5,a6⟩
 ·rcases hcase hv with ⟨rfl,rfl⟩|⟨_,hv⟩
  ·exact h.ow j w hw
  ·exact h.ow j v hv
 ·have e:=dr_dq (q:=q) (s:=m.c.setW ws') hk hwk (some d');show DQI q.D (sD q) (m.l.set k _).length (aDR q (m.c.setW ws') (m.l.set k _)) P' H' T' cl';rw[e,List.length_set];exact hdq
 ·exact (h.ci.mvDG hP).of (agr_dq hk hwk (some d') hx hrc)
 ·have hn:=h.ni.same (r':=aRC q m.c m.l) (P':=P') (fun id=>by rcases hP id with e|⟨e1,e2⟩<;>grind) (fun _=>rfl) (fun id hi=>h.ni.b id (by rcases hP id with e|⟨e1,e2⟩<;>grind));show NI q.F.toNat (m.l.set k _).length _ P' cn;rw[List.length_set];exact ni_dq hn hk hwk (some d') hrc
 ·rcases hcase hv with ⟨rfl,rfl⟩|⟨_,hv⟩
  ·cases hd;exact hta hi
  ·exact h.ta j v d hv hd hi
 ·rcases hcase hv with ⟨rfl,rfl⟩|⟨_,hv⟩
  ·cases hd;exact hwh hi
  ·exact h.wh j v d hv hd hi
 ·rcases hcase hv with ⟨rfl,rfl⟩|⟨_,hv⟩
  ·exact h.gs j w hw ha
  ·exact h.gs j v hv ha
 ·rcases hcase hv with ⟨rfl,rfl⟩|⟨_,hv⟩
  ·exact h.vr j w hw
  ·exact h.vr j v hv
 ·rcases hcase hv with ⟨rfl,rfl⟩|⟨_,hv⟩
  ·cases hd;exact hfl hs3
  ·exact h.fl j v d hv hs3 hd
end
section
variable {q:Pm} {m:Mc} {k:Nat} {w:Wk} {d:Dq} {P:Int→Pc} {H T:Nat→Int} {cl:Nat→Nat} {cn:Int→Int} {rg:Nat→Int} {pc:Int→Int→Int}
theorem InvG.dqk (h:InvG q m P H T cl cn rg pc) (hw:m.l[k]?=some w) (hd:w.dq=some d):k < m.l.length∧(k:Int) < q.W∧(aDR q m.c m.l).st k=w.state∧(aDR q m.c m.l).ta k=w.tail∧(aDR q m.c m.l).dq k=dv (some d):=by
 have hk:=Qh hw;have hwk:wkAt m.l k=w:=by unfold wkAt;rw[List.getD_eq_getElem?_getD,hw];rfl
 have:=h.ln;refine ⟨hk,by omega,?_,?_,?_⟩
 ·show (wkAt m.l k).state=_;rw[hwk]
 ·show (wkAt m.l k).tail=_;rw[hwk]
 ·show dv (wkAt m.l k).dq=_;rw[hwk,hd]
theorem hd_ld (h:InvG q m P H T cl cn rg pc) {j:Nat} (hj:(j:Int) < q.W):(aDR q m.c m.l).hd j=ldW m.c.ws (q.base j):=by show lw q m.c.ws (.d j 0)=_;rw[Y79 (okd hj h.ok (Int.le_refl 0) ka),QR hj]
theorem Q52 {n:Int} (h0:-1000000000≤n) (h1:n≤1000000000):w64 n=n:=Q22 ka ka
theorem Qk (ws:List Int) (a v:Int):(stW ws a v).length=ws.length:=by simp[stW]
theorem keepP (P:Int→Pc):∀id,P id=P id∨((∃j n,P id=.deq j n)∨∃i,P id=.own i .got)∧((∃j n,P id=.deq j n)∨∃i,P id=.own i .got):=fun _=>.inl rfl
theorem tl_rc (h:InvG q m P H T cl cn rg pc) {j:Nat} (hj:(j:Int) < q.W) (v:Int):aRC q (m.c.setW (stW m.c.ws (q.base j+1) v)) m.l=aRC q m.c m.l:=by
 have ea:q.base j+1=addr q (.d j 1):=by rw[QR hj];show (j:Int) * q.wide+0+1=(j:Int) * q.wide+1;omega
 rw[ea];exact rc_d h.ok h.ws (okd hj h.ok (show (0:Int)≤1 by omega) ka) v
theorem InvG.less (h:InvG q m P H T cl cn rg pc) (hw:m.l[k]?=some w) (hs:w.state=2) (hd:w.dq=some d) (hn:d.nx=.less) (hb:T k≤1000000):
  InvG q ⟨m.c.setW (stW m.c.ws (q.base d.who+1) (w64 (d.t - 1))),m.l.set k { w with dq:=some { d with nx:=.looks } }⟩ P H T cl cn rg pc:=by
 obtain ⟨hk,hkW,e1,e2,e3⟩:=h.dqk hw hd;have hs':(aDR q m.c m.l).st k=2:=e1.trans hs;have hn':((aDR q m.c m.l).dq k).nx=.less:=by rw[e3];exact hn
 have hq0:=(h.dq.q0 k hk hs').1;have hq2:=h.dq.q2 k hk hs' eu eu;have hrg:=h.dq.rg k hk;have hwh:=h.wh k w d hw hd (.inr (.inl hs));rw[e3] at hq0 hq2;have hwho:d.who=k:=by have:d.who.toNat=k:=hq0;omega
 have hdt:d.t=T k:=hq2;have ht:w64 (d.t - 1)=d.t - 1:=Q52 ka ka;have eb:q.base d.who=q.base (k:Int):=by rw[hwho]
 rw[eb,ht];have hD:=h.dq.less hk hs' hn';refine h.walk hw { d with nx:=.looks } _ (Qk _ _ _) (tl_rc h hkW _) (fun e=>by omega) (fun e=>by cases e) (fun _=>hwh) (keepP P) ?_;rw[dr_tl h.ok h.ws hkW];rw[e3] at hD;exact hD
theorem InvG.looksN (h:InvG q m P H T cl cn rg pc) (hw:m.l[k]?=some w) (hs:w.state=2) (hd:w.dq=some d) (hn:d.nx=.looks) (hb:T k≤1000000):
  InvG q ⟨m.c.setW (m.c.ws),m.l.set k { w with dq:=some { d with nx:=.restores } }⟩ P H T cl cn rg pc:=by
 obtain ⟨hk,hkW,e1,e2,e3⟩:=h.dqk hw hd;have hs':(aDR q m.c m.l).st k=2:=e1.trans hs;have hn':((aDR q m.c m.l).dq k).nx=.looks:=by rw[e3];exact hn
 have hq0:=(h.dq.q0 k hk hs').1;have hq2:=h.dq.q2 k hk hs' eu eu;have hrg:=h.dq.rg k hk;have hwh:=h.wh k w d hw hd (.inr (.inl hs));rw[e3] at hq0 hq2;have hwho:d.who=k:=by have:d.who.toNat=k:=hq0;omega
 have hdt:d.t=T k:=hq2;have ht:w64 (d.t - 1)=d.t - 1:=Q52 ka ka;have eb:q.base d.who=q.base (k:Int):=by rw[hwho]
 have hD:=h.dq.looksN hk hs' hn';refine h.walk hw { d with nx:=.restores } _ rfl rfl (fun e=>by omega) (fun e=>by cases e) (fun _=>hwh) (keepP P) ?_;rw[e3] at hD;exact hD
theorem InvG.looksAgainN (h:InvG q m P H T cl cn rg pc) (hw:m.l[k]?=some w) (hs:w.state=2) (hd:w.dq=some d) (hn:d.nx=.looksAgain) (hb:T k≤1000000):
  InvG q ⟨m.c.setW (m.c.ws),m.l.set k { w with dq:=some { d with nx:=.backP } }⟩ P H T cl cn rg pc:=by
 obtain ⟨hk,hkW,e1,e2,e3⟩:=h.dqk hw hd;have hs':(aDR q m.c m.l).st k=2:=e1.trans hs;have hn':((aDR q m.c m.l).dq k).nx=.looksAgain:=by rw[e3];exact hn
 have hq0:=(h.dq.q0 k hk hs').1;have hq2:=h.dq.q2 k hk hs' eu eu;have hrg:=h.dq.rg k hk;have hwh:=h.wh k w d hw hd (.inr (.inl hs));rw[e3] at hq0 hq2;have hwho:d.who=k:=by have:d.who.toNat=k:=hq0;omega
 have hdt:d.t=T k:=hq2;have ht:w64 (d.t - 1)=d.t - 1:=Q52 ka ka;have eb:q.base d.who=q.base (k:Int):=by rw[hwho]
 have hD:=h.dq.looksAgainN hk hs' hn';refine h.walk hw { d with nx:=.backP } _ rfl rfl (fun e=>by omega) (fun _=>h.ta k w d hw hd eJ) (fun _=>hwh) (keepP P) ?_;rw[e3] at hD;exact hD
theorem InvG.restores (h:InvG q m P H T cl cn rg pc) (hw:m.l[k]?=some w) (hs:w.state=2) (hd:w.dq=some d) (hn:d.nx=.restores) (hb:T k≤1000000):
  InvG q ⟨m.c.setW (stW m.c.ws (q.base d.who+1) (d.t)),m.l.set k { w with dq:=some { d with nx:=.askL } }⟩ P H T cl cn rg pc:=by
 obtain ⟨hk,hkW,e1,e2,e3⟩:=h.dqk hw hd;have hs':(aDR q m.c m.l).st k=2:=e1.trans hs;have hn':((aDR q m.c m.l).dq k).nx=.restores:=by rw[e3];exact hn
 have hq0:=(h.dq.q0 k hk hs').1;have hq2:=h.dq.q2 k hk hs' eu eu;have hrg:=h.dq.rg k hk;have hwh:=h.wh k w d hw hd (.inr (.inl hs));rw[e3] at hq0 hq2;have hwho:d.who=k:=by have:d.who.toNat=k:=hq0;omega
 have hdt:d.t=T k:=hq2;have ht:w64 (d.t - 1)=d.t - 1:=Q52 ka ka;have eb:q.base d.who=q.base (k:Int):=by rw[hwho]
 rw[eb];have hD:=h.dq.restores hk hs' hn';refine h.walk hw { d with nx:=.askL } _ (Qk _ _ _) (tl_rc h hkW _) (fun e=>by omega) (fun e=>by cases e) (fun _=>hwh) (keepP P) ?_;rw[dr_tl h.ok h.ws hkW];rw[e3] at hD;exact hD
theorem InvG.lessAgain (h:InvG q m P H T cl cn rg pc) (hw:m.l[k]?=some w) (hs:w.state=2) (hd:w.dq=some d) (hn:d.nx=.lessAgain) (hb:T k≤1000000):
  InvG q ⟨m.c.setW (stW m.c.ws (q.base d.who+1) (w64 (d.t - 1))),m.l.set k { w with dq:=some { d with nx:=.looksAgain } }⟩ P H T cl cn rg pc:=by
 obtain ⟨hk,hkW,e1,e2,e3⟩:=h.dqk hw hd;have hs':(aDR q m.c m.l).st k=2:=e1.trans hs;have hn':((aDR q m.c m.l).dq k).nx=.lessAgain:=by rw[e3];exact hn
 have hq0:=(h.dq.q0 k hk hs').1;have hq2:=h.dq.q2 k hk hs' eu eu;have hrg:=h.dq.rg k hk;have hwh:=h.wh k w d hw hd (.inr (.inl hs));rw[e3] at hq0 hq2;have hwho:d.who=k:=by have:d.who.toNat=k:=hq0;omega
 have hdt:d.t=T k:=hq2;have ht:w64 (d.t - 1)=d.t - 1:=Q52 ka ka;have eb:q.base d.who=q.base (k:Int):=by rw[hwho]
 rw[eb,ht];have hD:=h.dq.lessAgain hk hs' hn';refine h.walk hw { d with nx:=.looksAgain } _ (Qk _ _ _) (tl_rc h hkW _) (fun e=>by omega) (fun _=>h.ta k w d hw hd eJ) (fun _=>hwh) (keepP P) ?_;rw[dr_tl h.ok h.ws hkW];rw[e3] at hD;exact hD
theorem InvG.backP (h:InvG q m P H T cl cn rg pc) (hw:m.l[k]?=some w) (hs:w.state=2) (hd:w.dq=some d) (hn:d.nx=.backP) (hb:T k≤1000000):
  InvG q ⟨m.c.setW (stW m.c.ws (q.base d.who+1) (d.t)),m.l.set k { w with dq:=some { d with nx:=.leaveN } }⟩ P H T cl cn rg pc:=by
 obtain ⟨hk,hkW,e1,e2,e3⟩:=h.dqk hw hd;have hs':(aDR q m.c m.l).st k=2:=e1.trans hs;have hn':((aDR q m.c m.l).dq k).nx=.backP:=by rw[e3];exact hn
 have hq0:=(h.dq.q0 k hk hs').1;have hq2:=h.dq.q2 k hk hs' eu eu;have hrg:=h.dq.rg k hk;have hwh:=h.wh k w d hw hd (.inr (.inl hs));rw[e3] at hq0 hq2;have hwho:d.who=k:=by have:d.who.toNat=k:=hq0;omega
 have hdt:d.t=T k:=hq2;have ht:w64 (d.t - 1)=d.t - 1:=Q52 ka ka;have eb:q.base d.who=q.base (k:Int):=by rw[hwho]
 rw[eb];have hD:=h.dq.backP hk hs' hn';refine h.walk hw { d with nx:=.leaveN } _ (Qk _ _ _) (tl_rc h hkW _) (fun e=>by omega) (fun _=>h.ta k w d hw hd eJ) (fun _=>hwh) (keepP P) ?_;rw[dr_tl h.ok h.ws hkW];rw[e3] at hD;exact hD
end
section
variable {q:Pm} {m:Mc} {k:Nat} {w:Wk} {d:Dq} {P:Int→Pc} {H T:Nat→Int} {cl:Nat→Nat} {cn:Int→Int} {rg:Nat→Int} {pc:Int→Int→Int}
theorem InvG.looksY (h:InvG q m P H T cl cn rg pc) (hw:m.l[k]?=some w) (hs:w.state=2) (hd:w.dq=some d) {b:DN} (hn:d.nx=.looks∧b=.takes∨d.nx=.looksAgain∧b=.leaveT) (hb:T k≤1000000) (hc:ldW m.c.ws (q.base d.who)≤w64 (d.t - 1)):
  InvG q ⟨m.c.setW m.c.ws,m.l.set k { w with dq:=some { d with nx:=b } }⟩ (updI P ((aDR q m.c m.l).sl k (sD q (d.t - 1))) (.own k .got)) H (upd T k (d.t - 1)) cl cn rg pc:=by
 obtain ⟨hk,hkW,e1,e2,e3⟩:=h.dqk hw hd;have hs':(aDR q m.c m.l).st k=2:=e1.trans hs;have hn2:((aDR q m.c m.l).dq k).nx=d.nx:=by rw[e3];rfl
 have hq0:=(h.dq.q0 k hk hs').1;have hq2:=h.dq.q2 k hk hs' (by rw[hn2];rcases hn with ⟨e,_⟩|⟨e,_⟩<;>rw[e]<;>decide) (by rw[hn2];rcases hn with ⟨e,_⟩|⟨e,_⟩<;>rw[e]<;>decide);have hrg:=h.dq.rg k hk;have hwh:=h.wh k w d hw hd (.inr (.inl hs));have hhd:=h.dq.hdH k hk;rw[e3] at hq0 hq2;have hwho:d.who=k:=by have:d.who.toNat=k:=hq0;omega
 have hdt:d.t=T k:=hq2;have ht:w64 (d.t - 1)=d.t - 1:=Q52 ka ka;have eb:q.base d.who=q.base (k:Int):=by rw[hwho]
 have hl:(aDR q m.c m.l).hd k=ldW m.c.ws (q.base (k:Int)):=hd_ld h hkW;rw[ht,eb,←hl] at hc;have hc':(aDR q m.c m.l).hd k≤((aDR q m.c m.l).dq k).t - 1:=by rw[e3];exact hc
 have hco:=h.dq.co k hk (d.t - 1) ka ka;refine h.walk hw { d with nx:=b } _ rfl rfl (fun e=>by omega) (fun e=>?_) (fun _=>hwh) (fun id=>?_) ?_
 ·rcases hn with ⟨_,rfl⟩|⟨e',rfl⟩
  ·cases e
  ·exact h.ta k w d hw hd (by rw[e'];rfl)
 ·unfold updI;by_cases c:id=(aDR q m.c m.l).sl k (sD q (d.t - 1))
  ·rw[if_pos c];exact .inr ⟨.inl ⟨k,d.t - 1,by rw[c];exact hco⟩,.inr ⟨k,rfl⟩⟩
  ·rw[if_neg c];exact .inl rfl
 ·rcases hn with ⟨e,rfl⟩|⟨e,rfl⟩
  ·have hD:=h.dq.looksY hk hs' (by rw[hn2];exact e) hc';rw[e3] at hD;exact hD
  ·have hD:=h.dq.looksAgainY hk hs' (by rw[hn2];exact e) hc';rw[e3] at hD;exact hD
end
section
variable {q:Pm} {m:Mc} {k:Nat} {w:Wk} {d:Dq} {P:Int→Pc} {H T:Nat→Int} {cl:Nat→Nat} {cn:Int→Int} {rg:Nat→Int} {pc:Int→Int→Int}
theorem sv_ld (h:InvG q m P H T cl cn rg pc) {j:Nat} (hj:(j:Int) < q.W):(aDR q m.c m.l).sv j=ldW m.c.ws (q.base j+3):=by
 show lw q m.c.ws (.d j 3)=_;have ea:q.base j+3=addr q (.d j 3):=by rw[QR hj];show (j:Int) * q.wide+0+3=(j:Int) * q.wide+3;omega
 rw[Y79 (okd hj h.ok ka ka),ea]
theorem sl_ld (h:InvG q m P H T cl cn rg pc) {j:Nat} (hj:(j:Int) < q.W) (n:Int):(aDR q m.c m.l).sl j (sD q n)=ldW m.c.ws (q.slot j n):=by have hs:=sD_in h.ok n;show (if 0≤sD q n then lw q m.c.ws (.d j (4+sD q n)) else 0)=_;rw[if_pos hs.1,Y79 (show okL q (.d j (4+sD q n)) from ⟨hj,by omega,by show _ < 4+q.D;omega⟩),YH hj]
theorem InvG.mineF (h:InvG q m P H T cl cn rg pc) (hw:m.l[k]?=some w) (hs:w.state=1) (hd:w.dq=some d) (hn:d.nx=.mineF) (hc:ldW m.c.ws (d.ta+1)=d.tn):
  InvG q ⟨m.c.setW m.c.ws,m.l.set k { w with dq:=some { d with nx:=.first } }⟩ P H T cl cn rg pc:=by
 obtain ⟨hk,hkW,e1,e2,e3⟩:=h.dqk hw hd;have hs':(aDR q m.c m.l).st k=1:=e1.trans hs;have hn':((aDR q m.c m.l).dq k).nx=.mineF:=by rw[e3];exact hn
 have hwh:=h.wh k w d hw hd (.inl hs);have hj:((d.who.toNat:Nat):Int)=d.who:=by omega
 have hjW:((d.who.toNat:Nat):Int) < q.W:=by omega
 have hta:=h.ta k w d hw hd eJ;have hv:=sv_ld h hjW;rw[hj] at hv;have hc':(aDR q m.c m.l).sv ((aDR q m.c m.l).dq k).who=((aDR q m.c m.l).dq k).tn:=by rw[e3];show (aDR q m.c m.l).sv d.who.toNat=d.tn;rw[hv,←hc,hta];congr 1;omega
 have hD:=h.dq.mineF hk hs' hn' hc';refine h.walk hw { d with nx:=.first } _ rfl rfl (fun e=>by omega) (fun _=>h.ta k w d hw hd eJ) (fun _=>hwh) (keepP P) ?_;rw[e3] at hD;exact hD
theorem InvG.first (h:InvG q m P H T cl cn rg pc) (hw:m.l[k]?=some w) (hs:w.state=1) (hd:w.dq=some d) (hn:d.nx=.first):
  InvG q ⟨m.c.setW m.c.ws,m.l.set k { w with dq:=some { d with h:=ldW m.c.ws (q.base d.who),nx:=.claims } }⟩ P H T cl cn rg pc:=by
 obtain ⟨hk,hkW,e1,e2,e3⟩:=h.dqk hw hd;have hs':(aDR q m.c m.l).st k=1:=e1.trans hs;have hn':((aDR q m.c m.l).dq k).nx=.first:=by rw[e3];exact hn
 have hwh:=h.wh k w d hw hd (.inl hs);have hj:((d.who.toNat:Nat):Int)=d.who:=by omega
 have hjW:((d.who.toNat:Nat):Int) < q.W:=by omega
 have hv:=hd_ld h hjW;rw[hj] at hv;have hD:=h.dq.first hk hs' hn';refine h.walk hw { d with h:=ldW m.c.ws (q.base d.who),nx:=.claims } _ rfl rfl (fun e=>by omega) (fun _=>h.ta k w d hw hd eJ) (fun _=>hwh) (keepP P) ?_;rw[e3] at hD;have ew:(dv (some d)).who=d.who.toNat:=rfl;rw[ew,hv] at hD;exact hD
theorem InvG.findsN (h:InvG q m P H T cl cn rg pc) (hw:m.l[k]?=some w) (hs:w.state=1) (hd:w.dq=some d) (hn:d.nx=.finds):
  InvG q ⟨m.c.setW m.c.ws,m.l.set k { w with dq:=some { d with nx:=.backS } }⟩ P H T cl cn rg pc:=by
 obtain ⟨hk,hkW,e1,e2,e3⟩:=h.dqk hw hd;have hs':(aDR q m.c m.l).st k=1:=e1.trans hs;have hn':((aDR q m.c m.l).dq k).nx=.finds:=by rw[e3];exact hn
 have hwh:=h.wh k w d hw hd (.inl hs);have hj:((d.who.toNat:Nat):Int)=d.who:=by omega
 have hjW:((d.who.toNat:Nat):Int) < q.W:=by omega
 have hD:=h.dq.findsN hk hs' hn';refine h.walk hw { d with nx:=.backS } _ rfl rfl (fun e=>by omega) (fun _=>h.ta k w d hw hd eJ) (fun _=>hwh) (keepP P) ?_;rw[e3] at hD;exact hD
theorem InvG.carries (h:InvG q m P H T cl cn rg pc) (hw:m.l[k]?=some w) (hs:w.state=1) (hd:w.dq=some d) (hn:d.nx=.carries):
  InvG q ⟨m.c.setW m.c.ws,m.l.set k { w with dq:=some { d with x:=ldW m.c.ws (q.slot d.who d.h),got:=true,nx:=.leaveN } }⟩ P H T cl cn rg pc:=by
 obtain ⟨hk,hkW,e1,e2,e3⟩:=h.dqk hw hd;have hs':(aDR q m.c m.l).st k=1:=e1.trans hs;have hn':((aDR q m.c m.l).dq k).nx=.carries:=by rw[e3];exact hn
 have hwh:=h.wh k w d hw hd (.inl hs);have hj:((d.who.toNat:Nat):Int)=d.who:=by omega
 have hjW:((d.who.toNat:Nat):Int) < q.W:=by omega
 have hv:=sl_ld h hjW d.h;rw[hj] at hv;have hD:=h.dq.carries hk hs' hn';refine h.walk hw { d with x:=ldW m.c.ws (q.slot d.who d.h),got:=true,nx:=.leaveN } _ rfl rfl (fun e=>by omega) (fun _=>h.ta k w d hw hd eJ) (fun _=>hwh) (keepP P) ?_;rw[e3] at hD;have ew:(dv (some d)).who=d.who.toNat:=rfl;have eh:(dv (some d)).h=d.h:=rfl;rw[ew,eh,hv] at hD;exact hD
theorem InvG.room (h:InvG q m P H T cl cn rg pc) (hw:m.l[k]?=some w) (hs:w.state=3) (hd:w.dq=some d) (hn:d.nx=.room) (hb:T k≤1000000) (hc:¬q.D - 1≤w64 (d.t - ldW m.c.ws (q.base d.who))):
  InvG q ⟨m.c.setW m.c.ws,m.l.set k { w with dq:=some { d with nx:=.lay } }⟩ P H T cl cn rg pc:=by
 obtain ⟨hk,hkW,e1,e2,e3⟩:=h.dqk hw hd;have hs':(aDR q m.c m.l).st k=3:=e1.trans hs;have hn':((aDR q m.c m.l).dq k).nx=.room:=by rw[e3];exact hn
 have hwh:=h.wh k w d hw hd (.inr (.inr hs));have hj:((d.who.toNat:Nat):Int)=d.who:=by omega
 have hjW:((d.who.toNat:Nat):Int) < q.W:=by omega
 have hp:=h.dq.p0 k hk hs';have hrg:=h.dq.rg k hk;have hhd:=h.dq.hdH k hk;rw[e3] at hp;have hwho:d.who=k:=by have:d.who.toNat=k:=hp.1;omega
 have hdt:d.t=T k:=hp.2.1;have eb:q.base d.who=q.base (k:Int):=by rw[hwho]
 have hl:(aDR q m.c m.l).hd k=ldW m.c.ws (q.base (k:Int)):=hd_ld h hkW;rw[eb,←hl,Q52 ka ka] at hc;have hc':((aDR q m.c m.l).dq k).t - (aDR q m.c m.l).hd k < q.D - 1:=by rw[e3];show d.t - _ < _;omega
 have hD:=h.dq.room hk hs' hn' hc';refine h.walk hw { d with nx:=.lay } _ rfl rfl (fun _=>by rw[hd];rfl) (fun e=>by cases e) (fun _=>hwh) (keepP P) ?_ (fun e=>by have:=h.fl k w d hw e hd;rw[hn] at this;exact this.trans ke);rw[e3] at hD;exact hD
theorem InvG.mineL (h:InvG q m P H T cl cn rg pc) (hw:m.l[k]?=some w) (hs:w.state=2) (hd:w.dq=some d) (hn:d.nx=.mineL) (hc:ldW m.c.ws (d.ta+1)=d.tn):
  InvG q ⟨m.c.setW m.c.ws,m.l.set k { w with dq:=some { d with nx:=.lessAgain } }⟩ P H T cl cn rg pc:=by
 obtain ⟨hk,hkW,e1,e2,e3⟩:=h.dqk hw hd;have hs':(aDR q m.c m.l).st k=2:=e1.trans hs;have hn':((aDR q m.c m.l).dq k).nx=.mineL:=by rw[e3];exact hn
 have hwh:=h.wh k w d hw hd (.inr (.inl hs));have hj:((d.who.toNat:Nat):Int)=d.who:=by omega
 have hjW:((d.who.toNat:Nat):Int) < q.W:=by omega
 have hta:=h.ta k w d hw hd eJ;have hq0:=(h.dq.q0 k hk hs').1;rw[e3] at hq0;have hwho:d.who=k:=by have:d.who.toNat=k:=hq0;omega
 have hv:=sv_ld h hkW;have hc':(aDR q m.c m.l).sv k=((aDR q m.c m.l).dq k).tn:=by rw[e3];show (aDR q m.c m.l).sv k=d.tn;rw[hv,←hc,hta,hwho];congr 1;omega
 have hD:=h.dq.mineL hk hs' hn' hc';refine h.walk hw { d with nx:=.lessAgain } _ rfl rfl (fun e=>by omega) (fun _=>h.ta k w d hw hd eJ) (fun _=>hwh) (keepP P) ?_;rw[e3] at hD;exact hD
end
section
variable {q:Pm} {m:Mc} {k:Nat} {w:Wk} {d:Dq} {P:Int→Pc} {H T:Nat→Int} {cl:Nat→Nat} {cn:Int→Int} {rg:Nat→Int} {pc:Int→Int→Int}
theorem hd_rc (h:InvG q m P H T cl cn rg pc) {j:Nat} (hj:(j:Int) < q.W) (v:Int):aRC q (m.c.setW (stW m.c.ws (q.base j) v)) m.l=aRC q m.c m.l:=by rw[QR hj];exact rc_d h.ok h.ws (okd hj h.ok (Int.le_refl 0) ka) v
theorem nt_rc (h:InvG q m P H T cl cn rg pc) {j:Nat} (hj:(j:Int) < q.W) (v:Int):aRC q (m.c.setW (stW m.c.ws (q.base j+2) v)) m.l=aRC q m.c m.l:=by
 have ea:q.base j+2=addr q (.d j 2):=by rw[QR hj];show (j:Int) * q.wide+0+2=(j:Int) * q.wide+2;omega
 rw[ea];exact rc_d h.ok h.ws (okd hj h.ok (show (0:Int)≤2 by omega) ka) v
theorem sv_rc (h:InvG q m P H T cl cn rg pc) {j:Nat} (hj:(j:Int) < q.W) (v:Int):aRC q (m.c.setW (stW m.c.ws (q.base j+3) v)) m.l=aRC q m.c m.l:=by
 have ea:q.base j+3=addr q (.d j 3):=by rw[QR hj];show (j:Int) * q.wide+0+3=(j:Int) * q.wide+3;omega
 rw[ea];exact rc_d h.ok h.ws (okd hj h.ok (show (0:Int)≤3 by omega) ka) v
theorem sl_rc (h:InvG q m P H T cl cn rg pc) {j:Nat} (hj:(j:Int) < q.W) (n v:Int):aRC q (m.c.setW (stW m.c.ws (q.slot j n) v)) m.l=aRC q m.c m.l:=by have hs:=sD_in h.ok n;rw[YH hj];exact rc_d h.ok h.ws (show okL q (.d j (4+sD q n)) from ⟨hj,by omega,by show _ < 4+q.D;omega⟩) v
theorem nt_ld (h:InvG q m P H T cl cn rg pc) {j:Nat} (hj:(j:Int) < q.W):(aDR q m.c m.l).nt j=ldW m.c.ws (q.base j+2):=by
 show lw q m.c.ws (.d j 2)=_;have ea:q.base j+2=addr q (.d j 2):=by rw[QR hj];show (j:Int) * q.wide+0+2=(j:Int) * q.wide+2;omega
 rw[Y79 (okd hj h.ok ka ka),ea]
theorem tl_ld (h:InvG q m P H T cl cn rg pc) {j:Nat} (hj:(j:Int) < q.W):(aDR q m.c m.l).tl j=ldW m.c.ws (q.base j+1):=by
 show lw q m.c.ws (.d j 1)=_;have ea:q.base j+1=addr q (.d j 1):=by rw[QR hj];show (j:Int) * q.wide+0+1=(j:Int) * q.wide+1;omega
 rw[Y79 (okd hj h.ok ka ka),ea]
theorem InvG.claims (h:InvG q m P H T cl cn rg pc) (hw:m.l[k]?=some w) (hs:w.state=1) (hd:w.dq=some d) (hn:d.nx=.claims) (hb:T d.who.toNat≤1000000):
  InvG q ⟨m.c.setW (stW m.c.ws (q.base d.who) (w64 (d.h+1))),m.l.set k { w with dq:=some { d with nx:=.finds } }⟩ P H T (upd cl d.who.toNat k) cn rg pc:=by
 obtain ⟨hk,hkW,e1,e2,e3⟩:=h.dqk hw hd;have hs':(aDR q m.c m.l).st k=1:=e1.trans hs;have hn':((aDR q m.c m.l).dq k).nx=.claims:=by rw[e3];exact hn
 have hwh:=h.wh k w d hw hd (.inl hs);have hj:((d.who.toNat:Nat):Int)=d.who:=by omega
 have hjW:((d.who.toNat:Nat):Int) < q.W:=by omega
 have hln:=h.ln;have h1:=(h.dq.t1 k hk hs' hn').2;rw[e3] at h1;have h1':d.h=H d.who.toNat:=h1;have hrg:=h.dq.rg d.who.toNat ka;have ht:w64 (d.h+1)=d.h+1:=Q52 ka ka;rw[ht];have hD:=h.dq.claims hk hs' hn';have hrc:=hd_rc h hjW (d.h+1);have hdr:=dr_hd (l:=m.l) h.ok h.ws hjW (d.h+1);rw[hj] at hrc hdr;refine h.walk hw { d with nx:=.finds } _ (Qk _ _ _) hrc (fun e=>by omega) (fun _=>h.ta k w d hw hd eJ) (fun _=>hwh) (keepP P) ?_;rw[hdr];rw[e3] at hD;exact hD
theorem InvG.backS (h:InvG q m P H T cl cn rg pc) (hw:m.l[k]?=some w) (hs:w.state=1) (hd:w.dq=some d) (hn:d.nx=.backS):
  InvG q ⟨m.c.setW (stW m.c.ws (q.base d.who) d.h),m.l.set k { w with dq:=some { d with nx:=.leaveN } }⟩ P H T cl cn rg pc:=by
 obtain ⟨hk,hkW,e1,e2,e3⟩:=h.dqk hw hd;have hs':(aDR q m.c m.l).st k=1:=e1.trans hs;have hn':((aDR q m.c m.l).dq k).nx=.backS:=by rw[e3];exact hn
 have hwh:=h.wh k w d hw hd (.inl hs);have hj:((d.who.toNat:Nat):Int)=d.who:=by omega
 have hjW:((d.who.toNat:Nat):Int) < q.W:=by omega
 have hD:=h.dq.backS hk hs' hn';have hrc:=hd_rc h hjW d.h;have hdr:=dr_hd (l:=m.l) h.ok h.ws hjW d.h;rw[hj] at hrc hdr;refine h.walk hw { d with nx:=.leaveN } _ (Qk _ _ _) hrc (fun e=>by omega) (fun _=>h.ta k w d hw hd eJ) (fun _=>hwh) (keepP P) ?_;rw[hdr];rw[e3] at hD;exact hD
theorem InvG.askL (h:InvG q m P H T cl cn rg pc) (hw:m.l[k]?=some w) (hs:w.state=2) (hd:w.dq=some d) (hn:d.nx=.askL) (hb:-1000000≤ldW m.c.ws (q.base d.who+2)∧ldW m.c.ws (q.base d.who+2)≤1000000) (hv:(aDR q m.c m.l).sv k≤(aDR q m.c m.l).nt k):
  InvG q ⟨m.c.setW (addW m.c.ws (q.base d.who+2) 1),m.l.set k { w with dq:=some { d with ta:=q.base d.who+2,tn:=ldW m.c.ws (q.base d.who+2),nx:=.mineL } }⟩ P H T cl cn rg pc:=by
 obtain ⟨hk,hkW,e1,e2,e3⟩:=h.dqk hw hd;have hs':(aDR q m.c m.l).st k=2:=e1.trans hs;have hn':((aDR q m.c m.l).dq k).nx=.askL:=by rw[e3];exact hn
 have hwh:=h.wh k w d hw hd (.inr (.inl hs));have hj:((d.who.toNat:Nat):Int)=d.who:=by omega
 have hjW:((d.who.toNat:Nat):Int) < q.W:=by omega
 have hq0:=(h.dq.q0 k hk hs').1;rw[e3] at hq0;have hwho:d.who.toNat=k:=hq0;have ht:w64 (ldW m.c.ws (q.base d.who+2)+1)=ldW m.c.ws (q.base d.who+2)+1:=Q52 ka ka;unfold addW;rw[ht];have hl:=nt_ld h hjW;rw[hj,hwho] at hl;have hD:=h.dq.askL hk hs' hn' hv;have hrc:=nt_rc h hjW (ldW m.c.ws (q.base d.who+2)+1);have hdr:=dr_nt (l:=m.l) h.ok h.ws hjW (ldW m.c.ws (q.base d.who+2)+1);rw[hj] at hrc hdr;refine h.walk hw { d with ta:=q.base d.who+2,tn:=ldW m.c.ws (q.base d.who+2),nx:=.mineL } _ (Qk _ _ _) hrc (fun e=>by omega) (fun _=>rfl) (fun _=>hwh) (keepP P) ?_;rw[hdr];rw[e3] at hD;rw[hl] at hD;rw[hwho];exact hD
theorem InvG.leaveT (h:InvG q m P H T cl cn rg pc) (hw:m.l[k]?=some w) (hs:w.state=2) (hd:w.dq=some d) (hn:d.nx=.leaveT) (hb:-1000000≤d.tn∧d.tn≤1000000):
  InvG q ⟨m.c.setW (stW m.c.ws (d.ta+1) (w64 (d.tn+1))),m.l.set k { w with dq:=some { d with nx:=.takes } }⟩ P H T cl cn rg pc:=by
 obtain ⟨hk,hkW,e1,e2,e3⟩:=h.dqk hw hd;have hs':(aDR q m.c m.l).st k=2:=e1.trans hs;have hn':((aDR q m.c m.l).dq k).nx=.leaveT:=by rw[e3];exact hn
 have hwh:=h.wh k w d hw hd (.inr (.inl hs));have hj:((d.who.toNat:Nat):Int)=d.who:=by omega
 have hjW:((d.who.toNat:Nat):Int) < q.W:=by omega
 have hq0:=(h.dq.q0 k hk hs').1;rw[e3] at hq0;have hwho:d.who.toNat=k:=hq0;have hta:=h.ta k w d hw hd eJ;have ea:d.ta+1=q.base d.who+3:=by rw[hta];omega
 have ht:w64 (d.tn+1)=d.tn+1:=Q52 ka ka;rw[ea,ht];have hD:=h.dq.leaveT hk hs' hn';have hrc:=sv_rc h hjW (d.tn+1);have hdr:=dr_sv (l:=m.l) h.ok h.ws hjW (d.tn+1);rw[hj] at hrc hdr;refine h.walk hw { d with nx:=.takes } _ (Qk _ _ _) hrc (fun e=>by omega) (fun e=>by cases e) (fun _=>hwh) (keepP P) ?_;rw[hdr];rw[e3] at hD;rw[hwho];exact hD
theorem InvG.lay (h:InvG q m P H T cl cn rg pc) (hw:m.l[k]?=some w) (hs:w.state=3) (hd:w.dq=some d) (hn:d.nx=.lay):
  InvG q ⟨m.c.setW (stW m.c.ws (q.slot d.who d.t) d.x),m.l.set k { w with dq:=some { d with nx:=.grow } }⟩ P H T cl cn rg pc:=by
 obtain ⟨hk,hkW,e1,e2,e3⟩:=h.dqk hw hd;have hs':(aDR q m.c m.l).st k=3:=e1.trans hs;have hn':((aDR q m.c m.l).dq k).nx=.lay:=by rw[e3];exact hn
 have hwh:=h.wh k w d hw hd (.inr (.inr hs));have hj:((d.who.toNat:Nat):Int)=d.who:=by omega
 have hjW:((d.who.toNat:Nat):Int) < q.W:=by omega
 have hq0:=h.dq.p0 k hk hs';rw[e3] at hq0;have hwho:d.who.toNat=k:=hq0.1;have hD:=h.dq.lay (fun a b=>sD_inj a b) hk hs' hn';have hrc:=sl_rc h hjW d.t d.x;have hdr:=dr_sl (l:=m.l) h.ok h.ws hjW d.t d.x;rw[hj] at hrc hdr;refine h.walk hw { d with nx:=.grow } _ (Qk _ _ _) hrc (fun _=>by rw[hd];rfl) (fun e=>by cases e) (fun _=>hwh) (keepP P) ?_ (fun e=>by have:=h.fl k w d hw e hd;rw[hn] at this;exact this.trans ke);rw[hdr];rw[e3] at hD;rw[hwho];exact hD
theorem InvG.findsY (h:InvG q m P H T cl cn rg pc) (hw:m.l[k]?=some w) (hs:w.state=1) (hd:w.dq=some d) (hn:d.nx=.finds) (hb:T d.who.toNat≤1000000) (hc:w64 (d.h+1)≤ldW m.c.ws (q.base d.who+1)):
  InvG q ⟨m.c.setW m.c.ws,m.l.set k { w with dq:=some { d with nx:=.carries } }⟩ (updI P ((aDR q m.c m.l).sl d.who.toNat (sD q d.h)) (.own k .got)) (upd H d.who.toNat (d.h+1)) T cl cn rg pc:=by
 obtain ⟨hk,hkW,e1,e2,e3⟩:=h.dqk hw hd;have hs':(aDR q m.c m.l).st k=1:=e1.trans hs;have hn':((aDR q m.c m.l).dq k).nx=.finds:=by rw[e3];exact hn
 have hwh:=h.wh k w d hw hd (.inl hs);have hj:((d.who.toNat:Nat):Int)=d.who:=by omega
 have hjW:((d.who.toNat:Nat):Int) < q.W:=by omega
 have hln:=h.ln;have hjl:d.who.toNat < m.l.length:=by omega
 have h2:=(h.dq.t2 k hk hs' (.inl hn')).2;rw[e3] at h2;have h2':d.h=H d.who.toNat:=h2;have hrg:=h.dq.rg d.who.toNat hjl;have htl:=h.dq.tlT d.who.toNat hjl;have hl:=tl_ld h hjW;rw[hj] at hl;rw[←hl,Q52 ka ka] at hc;have hc':((aDR q m.c m.l).dq k).h+1≤(aDR q m.c m.l).tl ((aDR q m.c m.l).dq k).who:=by rw[e3];exact hc
 have hco:=h.dq.co d.who.toNat hjl d.h ka ka;refine h.walk hw { d with nx:=.carries } _ rfl rfl (fun e=>by omega) (fun _=>h.ta k w d hw hd eJ) (fun _=>hwh) (fun id=>?_) ?_
 ·unfold updI;by_cases c:id=(aDR q m.c m.l).sl d.who.toNat (sD q d.h)
  ·rw[if_pos c];exact .inr ⟨.inl ⟨d.who.toNat,d.h,by rw[c];exact hco⟩,.inr ⟨k,rfl⟩⟩
  ·rw[if_neg c];exact .inl rfl
 ·have hD:=h.dq.findsY hk hs' hn' hc';rw[e3] at hD;exact hD
end
def InvB (q:Pm) (m:Mc) (B:Int):Prop:=∃P H T cl cn rg pc,InvG q m P H T cl cn rg pc∧∀j,T j≤B
section
variable {B:Int}
variable {q:Pm} {m:Mc} {k:Nat} {w:Wk} {d:Dq} {P:Int→Pc} {H T:Nat→Int} {cl:Nat→Nat} {cn:Int→Int} {rg:Nat→Int} {pc:Int→Int→Int}
theorem InvG.inv (h:InvG q m P H T cl cn rg pc) (hB:∀j,T j≤B):InvB q m B:=by unfold InvB;exact ⟨P,H,T,cl,cn,rg,pc,h,hB⟩
theorem InvG.waits (h:InvG q m P H T cl cn rg pc) (hw:m.l[k]?=some w) (hd:w.dq=some d) (hwh:w.state=1∨w.state=2∨w.state=3):
  InvG q ⟨m.c.setW m.c.ws,m.l.set k { w with dq:=some d }⟩ P H T cl cn rg pc:=by
 obtain ⟨hk,hkW,e1,e2,e3⟩:=h.dqk hw hd;refine h.walk hw d _ rfl rfl (fun _=>by rw[hd];rfl) (fun e=>h.ta k w d hw hd e) (fun _=>h.wh k w d hw hd hwh) (keepP P) ?_ (fun e=>h.fl k w d hw e hd);have e:upd (aDR q m.c m.l).dq k (dv (some d))=(aDR q m.c m.l).dq:=by rw[←e3];exact Qg _ _
 rw[e];exact h.dq
theorem InvG.popOn (h:InvG q m P H T cl cn rg pc) (hw:m.l[k]?=some w) (hs:w.state=2) (hd:w.dq=some d) (hB:∀j,T j≤B) (hB1:B≤1000000)
  (hv:0≤(aDR q m.c m.l).sv k∧(aDR q m.c m.l).sv k≤(aDR q m.c m.l).nt k∧(aDR q m.c m.l).nt k≤1000000) (he:(dqNext q d m.c.ws).1.nx≠.nil):
  InvB q ⟨m.c.setW (dqNext q d m.c.ws).2,m.l.set k { w with dq:=some (dqNext q d m.c.ws).1 }⟩ B:=by
 have hT:T k≤1000000:=Int.le_trans (hB k) hB1;obtain ⟨hk,hkW,e1,e2,e3⟩:=h.dqk hw hd;have hs':(aDR q m.c m.l).st k=2:=e1.trans hs;have hq0:=h.dq.q0 k hk hs';have hk0:=h.dq.k0 k hk;have hwh:=h.wh k w d hw hd (.inr (.inl hs));rw[e3] at hq0 hk0;have hwn:(dv (some d)).who=k:=hq0.1;have hwho:d.who=k:=by have:d.who.toNat=k:=hwn;omega
 rw[hwn] at hk0;have hk0':inq d.nx=true→(aDR q m.c m.l).sv k≤d.tn∧d.tn < (aDR q m.c m.l).nt k:=hk0;have hpop:isPop d.nx=true:=hq0.2;have hl:=nt_ld h hkW;rw[←hwho] at hl;have hq2:d.nx≠.takes→d.nx≠.leaveT→d.t=T k:=by have a:=h.dq.q2 k hk hs';rw[e3] at a;exact a
 have hU:d.nx=.looks∨d.nx=.looksAgain→∀j,upd T k (d.t - 1) j≤B:=fun hx j=>by
  unfold upd;split
  ·have:=hq2 (by rcases hx with e|e<;>rw[e]<;>decide) (by rcases hx with e|e<;>rw[e]<;>decide);have:=hB k;omega
  ·exact hB j
 clear hk0 hq0;cases hx:d.nx
 all_goals (rw[hx] at hpop;try (cases hpop;done))
 all_goals (unfold dqNext at he ⊢;rw[hx] at he ⊢;dsimp only at he ⊢)
 ·exact (h.less hw hs hd hx hT).inv hB
 ·by_cases c:ldW m.c.ws (q.base d.who)≤w64 (d.t - 1)
  ·rw[if_pos c];exact (h.looksY hw hs hd (.inl ⟨hx,rfl⟩) hT c).inv (hU (.inl hx))
  ·rw[if_neg c];exact (h.looksN hw hs hd hx hT).inv hB
 ·exact absurd rfl he
 ·exact (h.restores hw hs hd hx hT).inv hB
 ·exact (h.askL hw hs hd hx ka hv.2.1).inv hB
 ·by_cases c:ldW m.c.ws (d.ta+1)=d.tn
  ·rw[if_pos c];exact (h.mineL hw hs hd hx c).inv hB
  ·rw[if_neg c];exact (h.waits hw hd (.inr (.inl hs))).inv hB
 ·exact (h.lessAgain hw hs hd hx hT).inv hB
 ·by_cases c:ldW m.c.ws (q.base d.who)≤w64 (d.t - 1)
  ·rw[if_pos c];exact (h.looksY hw hs hd (.inr ⟨hx,rfl⟩) hT c).inv (hU (.inr hx))
  ·rw[if_neg c];exact (h.looksAgainN hw hs hd hx hT).inv hB
 ·have:=hk0' (by rw[hx];rfl);exact (h.leaveT hw hs hd hx ka).inv hB
 ·exact (h.backP hw hs hd hx hT).inv hB
 ·exact absurd rfl he
end
section
variable {B:Int}
variable {q:Pm} {m:Mc} {k:Nat} {w:Wk} {d:Dq} {P:Int→Pc} {H T:Nat→Int} {cl:Nat→Nat} {cn:Int→Int} {rg:Nat→Int} {pc:Int→Int→Int}
theorem InvG.stealOn (h:InvG q m P H T cl cn rg pc) (hw:m.l[k]?=some w) (hs:w.state=1) (hd:w.dq=some d) (hB:∀j,T j≤B) (hB1:B≤1000000) (he:(dqNext q d m.c.ws).1.nx≠.nil):
  InvB q ⟨m.c.setW (dqNext q d m.c.ws).2,m.l.set k { w with dq:=some (dqNext q d m.c.ws).1 }⟩ B:=by
 have hT:∀j,T j≤1000000:=fun j=>Int.le_trans (hB j) hB1;obtain ⟨hk,hkW,e1,e2,e3⟩:=h.dqk hw hd;have hs':(aDR q m.c m.l).st k=1:=e1.trans hs;have ht0:=h.dq.t0 k hk hs';rw[e3] at ht0;have hpop:isSteal d.nx=true:=ht0.2;cases hx:d.nx
 all_goals (rw[hx] at hpop;try (cases hpop;done))
 all_goals (unfold dqNext at he ⊢;rw[hx] at he ⊢;dsimp only at he ⊢)
 ·exact absurd rfl he
 ·by_cases c:ldW m.c.ws (d.ta+1)=d.tn
  ·rw[if_pos c];exact (h.mineF hw hs hd hx c).inv hB
  ·rw[if_neg c];exact (h.waits hw hd (.inl hs)).inv hB
 ·exact (h.first hw hs hd hx).inv hB
 ·exact (h.claims hw hs hd hx (hT _)).inv hB
 ·by_cases c:w64 (d.h+1)≤ldW m.c.ws (q.base d.who+1)
  ·rw[if_pos c];exact (h.findsY hw hs hd hx (hT _) c).inv hB
  ·rw[if_neg c];exact (h.findsN hw hs hd hx).inv hB
 ·exact (h.backS hw hs hd hx).inv hB
 ·exact (h.carries hw hs hd hx).inv hB
theorem InvG.pushOn (h:InvG q m P H T cl cn rg pc) (hw:m.l[k]?=some w) (hs:w.state=3) (hd:w.dq=some d) (hB:∀j,T j≤B) (hB1:B≤1000000) (he:(dqNext q d m.c.ws).1.nx≠.nil):
  InvB q ⟨m.c.setW (dqNext q d m.c.ws).2,m.l.set k { w with dq:=some (dqNext q d m.c.ws).1 }⟩ B:=by
 have hT:∀j,T j≤1000000:=fun j=>Int.le_trans (hB j) hB1;obtain ⟨hk,hkW,e1,e2,e3⟩:=h.dqk hw hd;have hs':(aDR q m.c m.l).st k=3:=e1.trans hs;have hp0:=h.dq.p0 k hk hs';rw[e3] at hp0;have hpop:isPush d.nx=true:=hp0.2.2;cases hx:d.nx
 all_goals (rw[hx] at hpop;try (cases hpop;done))
 all_goals (unfold dqNext at he ⊢;rw[hx] at he ⊢;dsimp only at he ⊢)
 ·exact absurd hx he
 ·by_cases c:q.D - 1≤w64 (d.t - ldW m.c.ws (q.base d.who))
  ·rw[if_pos c] at he;exact absurd rfl he
  ·rw[if_neg c];exact (h.room hw hs hd hx (hT _) c).inv hB
 ·exact (h.lay hw hs hd hx).inv hB
 ·exact absurd rfl he
end
def Tk (W:Nat) (r:DR) (n:Int):Prop:=∀j,j < W→0≤r.sv j∧r.sv j≤r.nt j∧r.nt j≤n
section
variable {q:Pm} {s:Cs} {l l':List Wk} {W:Nat} {n:Int} {d:Dq}
theorem nt_ldw (ok:q.Ok) {j:Nat} (hj:(j:Int) < q.W):(aDR q s l).nt j=ldW s.ws (q.base j+2):=by
 show lw q s.ws (.d j 2)=_;have ea:q.base j+2=addr q (.d j 2):=by rw[QR hj];show (j:Int) * q.wide+0+2=(j:Int) * q.wide+2;omega
 rw[Y79 (okd hj ok ka ka),ea]
theorem Tk.next (ok:q.Ok) (hws:(s.ws.length:Int)=q.size) (t:Tk W (aDR q s l) n) (hn:n≤900000) (h0:0≤d.who) (h1:d.who < q.W) (hW:d.who.toNat < W)
  (hta:inq d.nx=true→d.ta=q.base d.who+2) (hk:inq d.nx=true→(aDR q s l).sv d.who.toNat≤d.tn∧d.tn < (aDR q s l).nt d.who.toNat):
  Tk W (aDR q (s.setW (dqNext q d s.ws).2) l') (n+1):=by
 have hj:((d.who.toNat:Nat):Int)=d.who:=by omega
 have hjW:((d.who.toNat:Nat):Int) < q.W:=by omega
 have t':Tk W (aDR q s l') (n+1):=fun j hj=>by have a:=t j hj;exact ⟨a.1,a.2.1,by have:=a.2.2;show (aDR q s l).nt j≤n+1;omega⟩
 have cH:∀v,Tk W (aDR q (s.setW (stW s.ws (q.base d.who) v)) l') (n+1):=fun v=>by have e:=dr_hd (l:=l') ok hws hjW v;rw[hj] at e;rw[e];exact t'
 have cT:∀v,Tk W (aDR q (s.setW (stW s.ws (q.base d.who+1) v)) l') (n+1):=fun v=>by have e:=dr_tl (l:=l') ok hws hjW v;rw[hj] at e;rw[e];exact t'
 have cS:∀i v,Tk W (aDR q (s.setW (stW s.ws (q.slot d.who i) v)) l') (n+1):=fun i v=>by have e:=dr_sl (l:=l') ok hws hjW i v;rw[hj] at e;rw[e];exact t'
 have cA:Tk W (aDR q (s.setW (addW s.ws (q.base d.who+2) 1)) l') (n+1):=by
  have hl:=nt_ldw (s:=s) (l:=l) ok hjW;rw[hj] at hl;have a:=t _ hW;unfold addW;rw[←hl,Q52 ka ka];have e:=dr_nt (l:=l') ok hws hjW ((aDR q s l).nt d.who.toNat+1);rw[hj] at e;rw[e];intro j hj;have b:=t j hj;show 0≤(aDR q s l).sv j∧(aDR q s l).sv j≤upd (aDR q s l).nt _ _ j∧upd (aDR q s l).nt _ _ j≤n+1;unfold upd;by_cases c:j=d.who.toNat
  ·subst c;rw[if_pos rfl];omega
  ·rw[if_neg c];omega
 have cL:inq d.nx=true→Tk W (aDR q (s.setW (stW s.ws (d.ta+1) (w64 (d.tn+1)))) l') (n+1):=fun hi=>by
  have ha:=hta hi;have hb:=hk hi;have a:=t _ hW;have ea:d.ta+1=q.base d.who+3:=by omega
  rw[ea,Q52 ka ka];have e:=dr_sv (l:=l') ok hws hjW (d.tn+1);rw[hj] at e;rw[e];intro j hj;have b:=t j hj;show 0≤upd (aDR q s l).sv _ _ j∧upd (aDR q s l).sv _ _ j≤(aDR q s l).nt j∧(aDR q s l).nt j≤n+1;unfold upd;by_cases c:j=d.who.toNat
  ·subst c;rw[if_pos rfl];omega
  ·rw[if_neg c];omega
 cases hx:d.nx
 all_goals (unfold dqNext;rw[hx] at cL ⊢;dsimp only)
 ·exact t'
 ·split<;>exact t'
 ·exact cS _ _
 ·exact cT _
 ·exact cT _
 ·split<;>exact t'
 ·exact t'
 ·exact cT _
 ·exact cA
 ·split<;>exact t'
 ·exact cT _
 ·split<;>exact t'
 ·exact cL rfl
 ·exact cT _
 ·exact cL rfl
 ·exact cA
 ·split<;>exact t'
 ·exact t'
 ·exact cH _
 ·split<;>exact t'
 ·exact cH _
 ·exact t'
end
end Go.Proofs.YtelibaobkcokdaaGreat.Mx.In
