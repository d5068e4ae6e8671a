/- The machine's invariant: instructions. -/
import Derived.Test.YtelibaobkcokdaaGreatTH2G31
namespace Go.Proofs.YtelibaobkcokdaaGreat.Mx.In
set_option linter.unusedSectionVars false
set_option linter.unusedVariables false
set_option linter.unusedSimpArgs false
open Go Go.Kx Go.Proofs Go.Proofs.YtelibaobkcokdaaGreat Go.Proofs.YtelibaobkcokdaaGreat.Mx
set_option linter.unusedSectionVars false
section
variable {q:Pm} {m:Mc} {k:Nat} {n:Int} {P:Int→Pc} {H T:Nat→Int} {cl:Nat→Nat} {cn:Int→Int} {rg:Nat→Int} {pc:Int→Int→Int}
theorem Y0 {s:Cs} {l:List Wk} (hl:s.held.length=s.fr.length) {id:Int} {f:Fm} (e:s.isHeld id=true→feOf f=feOf (s.at id)):aRC q (s.setFr id f) l=aRC q s l:=by
 by_cases c:s.isHeld id=true
 ·rw[X42 hl c,e c]
  have:updI (aRC q s l).fr id (feOf (s.at id))=(aRC q s l).fr:=by
   funext i;unfold updI;split
   ·rename_i e;subst e;rfl
   ·rfl
  rw[this]
 ·have:s.setFr id f=s:=if_neg c;rw[this]
theorem Ji {s:Cs} {l:List Wk} (hl:s.held.length=s.fr.length) (id:Int) (g:List Int):aRC q (s.setFr id { s.at id with regs:=g }) l=aRC q s l:=Y0 hl fun _=>rfl
theorem Q92 (s:Cs) (l:List Wk) (a b:Int):aRC q (s.stop a b) l=aRC q s l:=by unfold Cs.stop;split<;>rfl
theorem Q67 (s:Cs) (l:List Wk) (a b:Int):aDR q (s.stop a b) l=aDR q s l:=by unfold Cs.stop;split<;>rfl
theorem Jj (s:Cs) (l:List Wk) (b:Bool) (id:Int) (f:Fm):aDR q (s.setIf b id f) l=aDR q s l:=by
 unfold Cs.setIf;split
 ·exact QT id f
 ·rfl
theorem len_setFr {s:Cs} (hl:s.held.length=s.fr.length) (id:Int) (f:Fm):(s.setFr id f).held.length=(s.setFr id f).fr.length:=by have e:=(Len.rf (s:=s)).f id f;rw[e.he,e.fr];exact hl
theorem Be.nopF (h:Be q m k n P H T cl cn rg pc) {s1:Cs} (hL:Len m.c s1) (hR:aRC q s1 m.l=aRC q m.c m.l) (hD:aDR q s1 m.l=aDR q m.c m.l) (hx:s1.held.length=s1.fr.length) (id:Int) (f:Fm) (e:feOf f=feOf (s1.at id)):Af q m k n (wkAt m.l k,s1.setFr id f):=
 h.nop ((Y0 hx fun _=>e).trans hR) ((QT _ _).trans hD) (hL.f _ _)
theorem Be.beg (h:Be q m k n P H T cl cn rg pc) (ar:ArI q.F (beginC m.c (wkAt m.l k).holds (m.c.at (wkAt m.l k).holds))):Be q ⟨beginC m.c (wkAt m.l k).holds (m.c.at (wkAt m.l k).holds),m.l⟩ k n P H T cl cn rg pc:=by
 refine h.c ?_ ?_ ?_ ar
 ·unfold beginC;split
  ·exact (Y80 _ _ _ (.inl rfl)).trans (Y0 h.g.hl fun _=>rfl)
  ·rfl
 ·unfold beginC;split
  ·exact QT _ _
  ·rfl
 ·unfold beginC;split
  ·exact (Len.rf.f _ _).n _
  ·exact Len.rf
theorem X60 {s s':Cs} {f:Fm} (e:makeF q s f=(none,s')):s'=s.stop 5 1:=by
 unfold makeF at e;split at e
 ·cases e
 ·cases e;rfl
theorem Be.made (h:Be q m k n P H T cl cn rg pc) {f:Fm} {id:Int} {s s':Cs} (hb:s.back=m.c.back) (hf:s.fresh=m.c.fresh) (hh:s.held=m.c.held) (e:makeF q s f=(some id,s')):(1≤id∧id≤q.F)∧P id=.free:=by
 obtain ⟨b,fr,hn,_⟩:=X56 e;have hn':m.c.nextId=some (id,b,fr):=by rw[←hn];unfold Cs.nextId;rw[hb,hf,hh]
 obtain ⟨h1,h2,_⟩:=h.g.ar.next hn';refine ⟨⟨by omega,h1.2⟩,?_⟩;have:(aRC q m.c m.l).us id=false:=by show m.c.isHeld id=false;unfold Cs.isHeld;rw[h2];simp
 cases c:decide (P id=.free) with
 | true=>exact of_decide_eq_true c
 | false=>rw[(h.g.ci.f0 id).2 (of_decide_eq_false c)] at this;cases this
theorem Be.fork (h:Be q m k n P H T cl cn rg pc) (hs:(wkAt m.l k).state=4) (pc' fn:Int):Af q m k n (forkF q (wkAt m.l k,m.c) (m.c.at (wkAt m.l k).holds) pc' fn):=by
 have h4:(aRC q m.c m.l).st k=4:=hs;have hp:=h.nf eI eB;have hh:=h.held hp;unfold forkF;dsimp only
 cases e:makeF q m.c ⟨1,fn,0,(m.c.at (wkAt m.l k).holds).regs,(wkAt m.l k).holds,false,false,0,0,0,0,0⟩ with
 | mk o s'=>
  cases o with
  | none=>dsimp only;rw[X60 e];exact h.nop (Q92 _ _ _ _) (Q67 _ _ _ _) (Len.rf.p _ _)
  | some id=>
   dsimp only;obtain ⟨hi,hf⟩:=h.made rfl rfl rfl e;have hne:(wkAt m.l k).holds≠id:=fun x=>hp (by rw[x];exact hf);have e1:=J2 (l:=m.l) h.g.ok h.g.ws h.g.hl h.g.ar.hl hi e;have hx:=(Len.rf (s:=m.c)).m e
   have hh':s'.isHeld (wkAt m.l k).holds=true:=by
    have:(aRC q s' m.l).us (wkAt m.l k).holds=true:=by rw[e1];show updI _ _ _ _=true;unfold updI;rw[if_neg hne];exact hh
    exact this
   refine h.sA 6 (h.ci.fork h.kW h4 hf ka ka) ?_ ((Jj _ _ _ _ _).trans (J1 h.g.ok h.g.ws hi e)) (hPu (hP0 P) _ (by rw[hf];rfl)) (hx.i _ _ _) ⟨h.lim.1,by dsimp only;exact limU (limU h.lim.2 _ (by exact h.lim.2 _)) _ (by have:=h.nn;show (0:Int)≤_;omega)⟩ eB ko (QL (s:=6) ko) (hst:=fun x _ h2=>(st_new hf _ x h2).trans (st_set (aRC q m.c m.l).fr (wkAt m.l k).holds (v:={ (aRC q m.c m.l).fr (wkAt m.l k).holds with dirty:=true }) rfl x));have es:s'.setIf (m.c.isHeld (wkAt m.l k).holds) (wkAt m.l k).holds { m.c.at (wkAt m.l k).holds with pc:=pc',dirty:=true }=s'.setFr (wkAt m.l k).holds { m.c.at (wkAt m.l k).holds with pc:=pc',dirty:=true }:=by rw[hh];rfl
   dsimp only;rw[es,Qq h.kl,X42 (by rw[hx.he,hx.fr];exact h.g.hl) hh',e1]
   have ef:updI (updI (aRC q m.c m.l).fr id (feOf ⟨1,fn,0,(m.c.at (wkAt m.l k).holds).regs,(wkAt m.l k).holds,false,false,0,0,0,0,0⟩)) (wkAt m.l k).holds (feOf { m.c.at (wkAt m.l k).holds with pc:=pc',dirty:=true })=updI (updI (aRC q m.c m.l).fr (wkAt m.l k).holds { (aRC q m.c m.l).fr (wkAt m.l k).holds with dirty:=true }) id ⟨1,(wkAt m.l k).holds,false,0,0,0,0⟩:=by
    funext i;unfold updI;by_cases c1:i=(wkAt m.l k).holds
    ·rw[if_pos c1,if_neg (by rw[c1];exact hne),if_pos c1];rfl
    ·rw[if_neg c1,if_neg c1];rfl
   rw[ef];exact agp
theorem Be.pipe (h:Be q m k n P H T cl cn rg pc) (hs:(wkAt m.l k).state=4) (hd:(m.c.at (wkAt m.l k).holds).dirty=false) (pc' fn:Int):Af q m k n (pipeF q (wkAt m.l k,m.c) (m.c.at (wkAt m.l k).holds) pc' fn):=by
 have h4:(aRC q m.c m.l).st k=4:=hs;have hp:=h.nf eI eB;have hh:=h.held hp;have hn:=h.nn;have hS:=h.sr;have hS0:0≤m.c.serial:=h.g.ci.s0;have e0:w64 (m.c.serial+1)=m.c.serial+1:=Q52 ka ka;unfold pipeF;dsimp only;rw[e0];have hL:Len m.c { m.c with serial:=m.c.serial+1 }:=⟨rfl,rfl,rfl,rfl⟩;have hR:aRC q { m.c with serial:=m.c.serial+1 } m.l={ aRC q m.c m.l with S:=m.c.serial+1 }:=rfl;have hD:aDR q { m.c with serial:=m.c.serial+1 } m.l=aDR q m.c m.l:=rfl;have b1:({ m.c with serial:=m.c.serial+1 }:Cs).back=m.c.back:=rfl;have b2:({ m.c with serial:=m.c.serial+1 }:Cs).fresh=m.c.fresh:=rfl;have b3:({ m.c with serial:=m.c.serial+1 }:Cs).held=m.c.held:=rfl;have b4:({ m.c with serial:=m.c.serial+1 }:Cs).fr=m.c.fr:=rfl;have b5:({ m.c with serial:=m.c.serial+1 }:Cs).ws=m.c.ws:=rfl;have b6:({ m.c with serial:=m.c.serial+1 }:Cs).serial=m.c.serial+1:=rfl;generalize ({ m.c with serial:=m.c.serial+1 }:Cs)=s1 at hL hR hD b1 b2 b3 b4 b5 b6 ⊢
 cases e:makeF q s1 ⟨3,fn,0,(m.c.at (wkAt m.l k).holds).regs,(wkAt m.l k).holds,false,false,0,0,0,0,m.c.serial+1⟩ with
 | mk o s'=>
  cases o with
  | none=>dsimp only;rw[X60 e];refine h.sA 4 h.ci.serial ?_ ((Q67 _ _ _ _).trans hD) (hP0 P) (hL.p _ _) ⟨by show m.c.serial+1≤_;omega,h.lim.2⟩ eB ko (QL (s:=4) ko hs) hs (hgs:=fun ha=>by unfold atSt at ha;rw[hs] at ha;cases ha);dsimp only;rw[Qq h.kl,Q92,hR];exact agp
  | some id=>
   dsimp only;obtain ⟨hi,hf⟩:=h.made b1 b2 b3 e;have hne:(wkAt m.l k).holds≠id:=fun x=>hp (by rw[x];exact hf);have w1:(s1.ws.length:Int)=q.size:=by rw[b5];exact h.g.ws
   have e1:=J2 (l:=m.l) h.g.ok w1 (by rw[b3,b4];exact h.g.hl) (by rw[b3];exact h.g.ar.hl) hi e;have hx:=hL.m e
   have hh':s'.isHeld (wkAt m.l k).holds=true:=by
    have:(aRC q s' m.l).us (wkAt m.l k).holds=true:=by rw[e1,hR];show updI _ _ _ _=true;unfold updI;rw[if_neg hne];exact hh
    exact this
   have hfe:s'.at (wkAt m.l k).holds=m.c.at (wkAt m.l k).holds:=by
    unfold Cs.at
    rw[if_pos hh',if_pos hh];obtain ⟨b,fr,_,rfl⟩:=X56 e;have:id.toNat≠(wkAt m.l k).holds.toNat:=by have:=h.inF hp;omega
    simp only[List.getD_eq_getElem?_getD,List.getElem?_set_ne this,b4]
   refine h.sA 19 (h.ci.pipe h.kW h4 hf ka (fun a b c x _ _=>Y16 x) hd ka) ?_ (((Jj _ _ _ _ _).trans (J1 h.g.ok w1 hi e)).trans hD) (hPu (hPu (hP0 P) _ (by rw[hf];rfl)) _ ?_) (hx.i _ _ _) ⟨by show m.c.serial+1≤_;omega,by dsimp only;exact limU h.lim.2 _ (by show (0:Int)≤_;omega)⟩ eB ko (QL (s:=19) ko) (hst:=fun x _ h2=>st_new hf _ x h2)
   ·have es:s'.setIf (m.c.isHeld (wkAt m.l k).holds) (wkAt m.l k).holds { m.c.at (wkAt m.l k).holds with pc:=pc' }=s'.setFr (wkAt m.l k).holds { m.c.at (wkAt m.l k).holds with pc:=pc' }:=by rw[hh];rfl
    dsimp only[Wk.loops];rw[es,Qq h.kl,Y0 (by rw[hx.he,hx.fr];exact h.g.hl) (fun _=>by rw[hfe];rfl),e1,hR];exact agp
   ·show nd (P (wkAt m.l k).holds)=true;rw[h.ho eI eB,hs];rfl
theorem Be.goOn (h:Be q m k n P H T cl cn rg pc) (hs:(wkAt m.l k).state=4) (hd:(m.c.at (wkAt m.l k).holds).dirty=false) (pc':Int) (e:Ef):Af q m k n (goOnF (wkAt m.l k,m.c) (m.c.at (wkAt m.l k).holds) pc' e):=by
 have h4:(aRC q m.c m.l).st k=4:=hs;unfold goOnF;dsimp only;split
 ·exact h.nop (Q92 _ _ _ _) (Q67 _ _ _ _) (Len.rf.p _ _)
 rename_i c1;split
 ·exact h.nop (Q92 _ _ _ _) (Q67 _ _ _ _) (Len.rf.p _ _)
 rename_i c2;have c1':((aRC q m.c m.l).fr ((aRC q m.c m.l).ho k)).kind=2:=Decidable.not_not.1 c1
 have hv:((aRC q m.c m.l).fr ((aRC q m.c m.l).ho k)).stage < e.v∧e.v < 1048576:=by
  have c3:=Decidable.not_not.1 c2;unfold goE at c3;split at c3
  ·cases c3
  ·show (m.c.at (wkAt m.l k).holds).stage < _∧_;omega
 have e1:aRC q (m.c.setFr (wkAt m.l k).holds { m.c.at (wkAt m.l k).holds with pc:=pc' }) m.l=aRC q m.c m.l:=Y0 h.g.hl fun _=>rfl
 have e2:aRC q (if (m.c.at (wkAt m.l k).holds).stage=0 then (m.c.setFr (wkAt m.l k).holds { m.c.at (wkAt m.l k).holds with pc:=pc' }).setFr (m.c.at (wkAt m.l k).holds).parent { (m.c.setFr (wkAt m.l k).holds { m.c.at (wkAt m.l k).holds with pc:=pc' }).at (m.c.at (wkAt m.l k).holds).parent with regs:=(m.c.at (wkAt m.l k).holds).regs } else m.c.setFr (wkAt m.l k).holds { m.c.at (wkAt m.l k).holds with pc:=pc' }) m.l=aRC q m.c m.l:=by
  split
  ·exact (Ji (len_setFr h.g.hl _ _) _ _).trans e1
  ·exact e1
 refine h.sA 9 (h.ci.goOn h.kW h4 hd c1' e.v hv) ?_ ?_ (hP0 P) ?_ h.lim eB ko (QL (s:=9) ko)
 ·dsimp only;rw[Qq h.kl,e2];exact agp
 ·dsimp only;split
  ·exact (QT _ _).trans (QT _ _)
  ·exact QT _ _
 ·dsimp only;split
  ·exact (Len.rf.f _ _).f _ _
  ·exact Len.rf.f _ _
theorem Be.leave (h:Be q m k n P H T cl cn rg pc) (hs:(wkAt m.l k).state=4) (hd:(m.c.at (wkAt m.l k).holds).dirty=false):Af q m k n (leaveF (wkAt m.l k,m.c) (m.c.at (wkAt m.l k).holds)):=by
 have h4:(aRC q m.c m.l).st k=4:=hs;unfold leaveF;dsimp only;split
 ·exact h.nop (Q92 _ _ _ _) (Q67 _ _ _ _) (Len.rf.p _ _)
 rename_i c1;split
 ·exact h.nop (Q92 _ _ _ _) (Q67 _ _ _ _) (Len.rf.p _ _)
 rename_i c2;have c1':((aRC q m.c m.l).fr ((aRC q m.c m.l).ho k)).kind=2:=Decidable.not_not.1 c1;have c2':((aRC q m.c m.l).fr ((aRC q m.c m.l).ho k)).stage=0:=Decidable.not_not.1 c2;refine h.sA 14 (h.ci.endIt h.kW h4 hd c1' true (by simp[c2'])) ?_ (QT _ _) (hP0 P) (Len.rf.f _ _) h.lim eB ko (QL (s:=14) ko);dsimp only;rw[Qq h.kl,Ji h.g.hl];exact agp
theorem Be.back (h:Be q m k n P H T cl cn rg pc) (hs:(wkAt m.l k).state=4) (hd:(m.c.at (wkAt m.l k).holds).dirty=false):Af q m k n (backF (wkAt m.l k,m.c) (m.c.at (wkAt m.l k).holds)):=by
 have h4:(aRC q m.c m.l).st k=4:=hs;have hp:=h.nf eI eB;have hh:=h.held hp;unfold backF;dsimp only;split
 ·rename_i c1;have hb:decide ((m.c.at (wkAt m.l k).holds).stage=0)=true↔((aRC q m.c m.l).fr ((aRC q m.c m.l).ho k)).stage=0:=decide_eq_true_iff
  have e1:aRC q (if (m.c.at (wkAt m.l k).holds).stage=0 then m.c.setFr (m.c.at (wkAt m.l k).holds).parent { m.c.at (m.c.at (wkAt m.l k).holds).parent with regs:=(m.c.at (wkAt m.l k).holds).regs } else m.c) m.l=aRC q m.c m.l:=by
   split
   ·exact Ji h.g.hl _ _
   ·rfl
  refine h.sA 14 (h.ci.endIt h.kW h4 hd c1 _ hb) ?_ ?_ (hP0 P) ?_ h.lim eB ko (QL (s:=14) ko)
  ·dsimp only;rw[Qq h.kl,e1];exact agp
  ·dsimp only;split
   ·exact QT _ _
   ·rfl
  ·dsimp only;split
   ·exact Len.rf.f _ _
   ·exact Len.rf
 rename_i c1;split
 ·exact h.nop (Q92 _ _ _ _) (Q67 _ _ _ _) (Len.rf.p _ _)
 rename_i c2
 have hk1:((aRC q m.c m.l).fr ((aRC q m.c m.l).ho k)).kind=1:=by
  have a:=h.g.ci.f1 _ hp;have b:=h.ci.c16 k h.kW (.inl h4);rcases a with a|a|a
  ·exact a
  ·exact absurd a c1
  ·exact absurd a b
 have hne:=h.ne eI eB;have hz:=h.ci.hz h.g.ni h.kl hne (by rw[h4];decide) (h.g.ci.h1 _ hp (by show ((aRC q m.c m.l).fr ((aRC q m.c m.l).ho k)).kind≠3;rw[hk1];decide) hd);refine h.sA 7 (h.ci.back h.kW h4 hd hk1 c2 hz) ?_ (dr_free _) (hPu (hP0 P) _ (by show nd (P (wkAt m.l k).holds)=true;rw[h.ho eI eB,hs];rfl)) (Len.rf.e _) h.lim eB ko (QL (s:=7) ko);dsimp only;rw[Qq h.kl,rc_free hh];constructor<;>try first|rfl|exact Qg _ _|exact (Z46 _ _ _ _).symm|(intro _ _;rfl)|(intro j _;exact congrFun (Qg _ _) j)|(intro j hj;by_cases c:j=k;(rw[c] at hj;simp[upd] at hj);simp[upd,c];done)
 intro id hid;unfold updI at hid ⊢;by_cases c:id=(wkAt m.l k).holds
 ·subst c;exact absurd (if_pos rfl) hid
 ·exact if_neg c
set_option maxHeartbeats 1000000 in
theorem Be.instr (h:Be q m k n P H T cl cn rg pc) (hs:(wkAt m.l k).state=4) (r:Int×List Int×Ef×Int):Af q m k n (instrF q (wkAt m.l k,m.c) (m.c.at (wkAt m.l k).holds) r):=by
 have h4:(aRC q m.c m.l).st k=4:=hs;have hp:=h.nf eI eB;have hpo:=h.ho eI eB;have hnd:nd (P (wkAt m.l k).holds)=true:=by rw[hpo,hs];rfl
 have hi:=h.inF hp;have hh:=h.held hp;unfold instrF;dsimp only;rw[h.jl hp];dsimp only;split
 ·split
  ·rename_i c2;have hJ:(aRC q m.c m.l).J ((aRC q m.c m.l).ho k)=1:=of_decide_eq_true c2;refine h.sA 5 (h.ci.leaveLast h.kW h4 hJ) ?_ (dr_J h.g.ok h.g.ws hi _) (hPu (hP0 P) _ hnd) (Len.rf.w (Qk _ _ _)) h.lim eB ko (QL (s:=5) ko);dsimp only;rw[Qq h.kl,rc_J h.g.ok h.g.ws hi];exact agp
  ·refine h.sP (h.ci.leaveNot h.kW h4) ?_ (dr_J h.g.ok h.g.ws hi _) (hPu (hP0 P) _ hnd) (Len.rf.w (Qk _ _ _)) h.lim eB;dsimp only[Wk.goes];rw[Qq h.kl,rc_J h.g.ok h.g.ws hi];exact agp
 rename_i c1
 have hd:endsE r.2.2.1=true→(m.c.at (wkAt m.l k).holds).dirty=false:=fun x=>by
  cases c:(m.c.at (wkAt m.l k).holds).dirty with
  | false=>rfl
  | true=>exact absurd ⟨x,c⟩ c1
 split
 ·exact h.nop (Q92 _ _ _ _) (Q67 _ _ _ _) (Len.rf.p _ _)
 have e0:∀(d:List Int),Len m.c { m.c with data:=d }:=fun _=>⟨rfl,rfl,rfl,rfl⟩;split
 ·split
  ·exact h.nop (s':=Cs.stop { m.c with data:=(askD m.c.data r.2.2.1).2.2 } 4 2) (Q92 _ _ _ _) (Q67 _ _ _ _) ((e0 _).p _ _)
  ·exact h.nopF (s1:={ m.c with data:=(askD m.c.data r.2.2.1).2.2 }) ⟨rfl,rfl,rfl,rfl⟩ rfl rfl h.g.hl _ _ rfl
 split
 ·split
  ·exact h.nop (Q92 _ _ _ _) (Q67 _ _ _ _) (Len.rf.p _ _)
  ·rename_i s' e;unfold emitC at e;split at e
   ·cases e
   ·cases e
    exact h.nopF (s1:={ m.c with out:=m.c.out++[r.2.2.1.v] }) ⟨rfl,rfl,rfl,rfl⟩ rfl rfl h.g.hl _ _ rfl
 split
 ·exact h.nopF Len.rf rfl rfl h.g.hl _ _ rfl
 unfold turnF;have hE:∀j:Int,7≤j→j≤12→r.2.2.1.k=j→(m.c.at (wkAt m.l k).holds).dirty=false:=fun j a b e=>hd (by unfold endsE;rw[e];exact decide_eq_true ⟨a,b⟩);split
 ·exact h.fork hs _ _
 split
 ·rename_i c;exact h.pipe hs (hE 8 ka ka c) _ _
 split
 ·rename_i c;rcases c with c|c
  ·exact h.goOn hs (hE 9 ka ka c) _ _
  ·exact h.goOn hs (hE 10 ka ka c) _ _
 split
 ·rename_i c;exact h.leave hs (hE 11 ka ka c)
 split
 ·rename_i c;exact h.back hs (hE 12 ka ka c)
 ·exact h.nop rfl rfl Len.rf
theorem begin_at {s:Cs} (hl:s.held.length=s.fr.length) (id:Int) (hh:s.isHeld id=true):(beginC s id (s.at id)).at id={ s.at id with due:=false }:=by
 unfold beginC
 cases c:(s.at id).due with
 | true=>show (s.setFr id _).at id=_;rw[at_setFr hl hh,if_pos rfl]
 | false=>show s.at id=_;generalize s.at id=f at c;cases f;cases c;rfl
theorem Be.run (h:Be q m k n P H T cl cn rg pc) (hs:(wkAt m.l k).state=4):Af q m k n (runF q (wkAt m.l k,m.c)):=by
 have hp:=h.nf eI eB
 have ar:ArI q.F (beginC m.c (wkAt m.l k).holds (m.c.at (wkAt m.l k).holds)):=by
  refine (E4.a (s:=m.c) ?_).1 q.F h.g.ar;unfold beginC;split
  ·obtain ⟨a,b,c,d⟩:=XR m.c (wkAt m.l k).holds { m.c.at (wkAt m.l k).holds with due:=false };exact ⟨a,b,c,d⟩
  ·exact ⟨rfl,rfl,rfl,rfl⟩
 have hb:=(h.beg ar).instr hs (doF (q.code (m.c.at (wkAt m.l k).holds).fn (m.c.at (wkAt m.l k).holds).pc) (m.c.at (wkAt m.l k).holds).pc (m.c.at (wkAt m.l k).holds).regs);dsimp only at hb;rw[begin_at h.g.hl _ (h.held hp)] at hb;exact hb
end
section
variable {q:Pm} {m:Mc} {k:Nat} {n:Int} {P:Int→Pc} {H T:Nat→Int} {cl:Nat→Nat} {cn:Int→Int} {rg:Nat→Int} {pc:Int→Int→Int}
theorem rc_sf {s:Cs} {l:List Wk} (hl:s.held.length=s.fr.length) {ws:List Int} {id:Int} (hh:s.isHeld id=true) (f:Fm):aRC q ((s.setW ws).setFr id f) l={ aRC q (s.setW ws) l with fr:=updI (aRC q (s.setW ws) l).fr id (feOf f) }:=X42 (s:=s.setW ws) hl hh f
theorem Be.joined (h:Be q m k n P H T cl cn rg pc) (hs:(wkAt m.l k).state=5):Af q m k n (joinedF q (wkAt m.l k,m.c)):=by
 have h5:(aRC q m.c m.l).st k=5:=hs;have hp:=h.nf eI eB;have hpo:=h.ho eI eB;have hnd:nd (P (wkAt m.l k).holds)=true:=by rw[hpo,hs];rfl
 have hi:=h.inF hp;have hh:=h.held hp;unfold joinedF;dsimp only;refine h.sA 4 (h.ci.joined h.kW h5) ?_ ((QT _ _).trans (dr_J h.g.ok h.g.ws hi _)) (hPu (hP0 P) _ hnd) ((Len.rf.w (Qk _ _ _)).f _ _) ⟨h.lim.1,by dsimp only;exact limU h.lim.2 _ (by exact h.lim.2 _)⟩ eB ko (QL (s:=4) ko) (hst:=fun x _ _=>st_set (aRC q m.c m.l).fr (wkAt m.l k).holds (v:={ (aRC q m.c m.l).fr (wkAt m.l k).holds with dirty:=false }) rfl x);dsimp only;rw[Qq h.kl,rc_sf h.g.hl hh,rc_J h.g.ok h.g.ws hi];exact agp
theorem Be.spawn (h:Be q m k n P H T cl cn rg pc) (hs:(wkAt m.l k).state=6):Af q m k n (spawnF q (wkAt m.l k,m.c)):=by have h6:(aRC q m.c m.l).st k=6:=hs;have hp:=h.nf eI eB;have hi:=h.inF hp;have hc:=(h.ci.c7 k h.kW h6).1;unfold spawnF;dsimp only;rw[h.ja hp];refine h.sU (id:=(wkAt m.l k).holds) (h.ci.spawn h.kW h6) ?_ (dr_J h.g.ok h.g.ws hi _) (hPu (hP0 P) _ (by rw[hc];rfl)) (Len.rf.w (Qk _ _ _)) h.lim eB rfl;dsimp only[Wk.pushes];rw[Qq h.kl,rc_J h.g.ok h.g.ws hi];exact agp
theorem Be.arrive (h:Be q m k n P H T cl cn rg pc) (hs:(wkAt m.l k).state=7):Af q m k n (arriveF q (wkAt m.l k,m.c)):=by
 have h7:(aRC q m.c m.l).st k=7:=hs;obtain ⟨c0,c1',c2⟩:=h.ci.c9 k h.kW h7;have c1:P (wkAt m.l k).other≠.free:=c1';have hi:=h.inF c1;have hJ:=h.Jb c1;have hcn:=h.g.ni.arr h.kl c0 h7 rfl;unfold arriveF;dsimp only;rw[h.jl c1];dsimp only;split
 ·rename_i c3;have c3':(aRC q m.c m.l).J ((aRC q m.c m.l).ot k)=1:=of_decide_eq_true c3;have ht:=Jg (P ((aRC q m.c m.l).ot k));have hJ1:(aRC q m.c m.l).J ((aRC q m.c m.l).ot k)=tokc (P ((aRC q m.c m.l).ot k))+cn ((aRC q m.c m.l).ot k):=hJ.1;have hc1:cn ((aRC q m.c m.l).ot k)=1:=by omega
  have ht0:tokc (P ((aRC q m.c m.l).ot k))=0:=by omega
  have hps:P ((aRC q m.c m.l).ot k)=.sync:=by
   have g6:=h.ci.g6 ((aRC q m.c m.l).ot k);have g7:=h.ci.g7 ((aRC q m.c m.l).ot k)
   cases e:P ((aRC q m.c m.l).ot k) with
   | sync=>rfl
   | fin=>exact absurd (g6 e) c2
   | own j t=>
    rw[e] at ht0
    cases t with
    | jn=>have:=g7 j e;omega
    | _=>cases ht0
   | _=>rw[e] at ht0;cases ht0
  refine h.sA 8 (h.ci.arriveLast h.kW h7 c3' hps hc1) ?_ (dr_J h.g.ok h.g.ws hi _) (hPu (hP0 P) _ (by rw[hps];rfl)) (Len.rf.w (Qk _ _ _)) h.lim eB ko (QL (s:=8) ko);dsimp only;rw[Qq h.kl,rc_J h.g.ok h.g.ws hi];exact agp
 ·have h0:(wkAt m.l k).holds=0:=h.ci.c2 k h.kW (by rw[h7];rfl);refine h.sP (h.ci.arriveNot h.kW h7 hcn) ?_ (dr_J h.g.ok h.g.ws hi _) (hP0 P) (Len.rf.w (Qk _ _ _)) h.lim eB;dsimp only[Wk.goes];rw[Qq h.kl,rc_J h.g.ok h.g.ws hi];have e0:upd (aRC q m.c m.l).ho k 0=(aRC q m.c m.l).ho:=by rw[←h0];exact Qg _ _
  dsimp only;rw[e0];exact agp
theorem Be.resume (h:Be q m k n P H T cl cn rg pc) (hs:(wkAt m.l k).state=8):Af q m k n (resumeF q (wkAt m.l k,m.c)):=by
 have h8:(aRC q m.c m.l).st k=8:=hs;obtain ⟨c0,c1,c2⟩:=h.ci.c8 k h.kW h8;have c0':P (wkAt m.l k).other=.own k .jn:=c0;have hp:P (wkAt m.l k).other≠.free:=by rw[c0'];exact fun e=>by cases e
 have hi:=h.inF hp;have hh:=h.held hp;unfold resumeF;dsimp only;refine h.sA 4 (h.ci.resume h.kW h8) ?_ ((QT _ _).trans (dr_J h.g.ok h.g.ws hi _)) (hPu (hP0 P) _ (by rw[c0];rfl)) ((Len.rf.w (Qk _ _ _)).f _ _) ⟨h.lim.1,by dsimp only;exact limU h.lim.2 _ (by exact h.lim.2 _)⟩ eB ko (QL (s:=4) ko) (hst:=fun x _ _=>st_set (aRC q m.c m.l).fr (wkAt m.l k).other (v:={ (aRC q m.c m.l).fr (wkAt m.l k).other with dirty:=false }) rfl x);dsimp only[Wk.runs];rw[Qq h.kl,rc_sf h.g.hl hh,rc_J h.g.ok h.g.ws hi];exact agp
theorem Be.idx (h:Be q m k n P H T cl cn rg pc) {id:Int} (hp:P id≠.free) (hk:(m.c.at id).kind=2):P (m.c.at id).parent≠.free∧(m.c.at (m.c.at id).parent).kind=3∧0≤(m.c.at id).index∧(m.c.at id).index < n:=by obtain ⟨a,b,c,d⟩:=h.ci.f2 id hp hk;refine ⟨a,b,c,?_⟩;have:=h.sd (m.c.at id).parent;have d':(m.c.at id).index < (m.c.at (m.c.at id).parent).started:=d;omega
theorem Be.checks (h:Be q m k n P H T cl cn rg pc) (hs:(wkAt m.l k).state=10∨(wkAt m.l k).state=12) (y ct:Int) (hy:y=0∨y=1):Af q m k n (checksF (wkAt m.l k,m.c) y ct):=by
 have he:emp (wkAt m.l k).state=false:=by rcases hs with e|e<;>rw[e]<;>rfl
 have h3:(wkAt m.l k).state≠3:=by omega
 have hp:=h.nf he h3;have hk:=h.ci.c16b k h.kW (by rcases hs with e|e;exact .inr (.inl e);exact .inr (.inr (.inr (.inl e))));have hx:=h.idx hp hk.1;have hn:=h.nn;unfold checksF rtLook;dsimp only;rw[Q52 ka ka];refine h.sA 11 (h.ci.checks h.kW hs y ct hy) ?_ rfl (hP0 P) Len.rf h.lim ka ko ⟨fun t _ ht=>(by cases ht;exact ⟨rfl,rfl⟩),fun _ e=>(by cases e),fun _ e=>(by cases e),fun _ e=>(by cases e)⟩ (hgs:=fun _=>h.gs (at_of ka));dsimp only;rw[Qq h.kl];exact agp
theorem Be.due (h:Be q m k n P H T cl cn rg pc) (hs:(wkAt m.l k).state=10∨(wkAt m.l k).state=12∨((wkAt m.l k).state=11∧(wkAt m.l k).gWhy≠2)) {s1:Cs} (hL:Len m.c s1) (hR:aRC q s1 m.l=aRC q m.c m.l) (hD:aDR q s1 m.l=aDR q m.c m.l) (hx:s1.held.length=s1.fr.length):Af q m k n (dueF (wkAt m.l k,s1)):=by
 unfold dueF;dsimp only;have e:aRC q (s1.setFr (wkAt m.l k).holds { s1.at (wkAt m.l k).holds with due:=true }) m.l=aRC q m.c m.l:=by rw[Y0 hx (f:={ s1.at (wkAt m.l k).holds with due:=true }) (fun _=>rfl),hR]
 have e':aDR q (s1.setFr (wkAt m.l k).holds { s1.at (wkAt m.l k).holds with due:=true }) m.l=aDR q m.c m.l:=by rw[QT,hD]
 have hL2:Len m.c (s1.setFr (wkAt m.l k).holds { s1.at (wkAt m.l k).holds with due:=true }):=hL.f _ _;generalize s1.setFr (wkAt m.l k).holds { s1.at (wkAt m.l k).holds with due:=true }=s2 at e e' hL2 ⊢;refine h.sA 4 (h.ci.after h.kW hs 4 (.inl rfl)) ?_ e' (hP0 P) hL2 h.lim ka ko (QL (s:=4) ko);dsimp only;rw[Qq h.kl,e];exact agp
theorem Be.decide (h:Be q m k n P H T cl cn rg pc) (hs:(wkAt m.l k).state=10∨(wkAt m.l k).state=12∨((wkAt m.l k).state=11∧(wkAt m.l k).gWhy≠2)):Af q m k n (decideF q (wkAt m.l k,m.c)):=by
 unfold decideF;dsimp only;split
 ·exact h.due hs Len.rf rfl rfl h.g.hl
 split
 ·exact h.due (s1:={ m.c with folds:=w64 (m.c.folds+1) }) hs ⟨rfl,rfl,rfl,rfl⟩ rfl rfl h.g.hl
 refine h.sA 12 (h.ci.after h.kW hs 12 (.inr rfl)) ?_ rfl (hP0 P) Len.rf h.lim ka ko (QL (s:=12) ko) (hgs:=fun _=>h.gs (at_of hs));dsimp only;rw[Qq h.kl];exact agp
theorem Be.looksOn (h:Be q m k n P H T cl cn rg pc) (hs:(wkAt m.l k).state=10):Af q m k n (looksOnF q (wkAt m.l k,m.c)):=by
 unfold looksOnF;dsimp only;split
 ·have e:({ wkAt m.l k with state:=10 }:Wk)=wkAt m.l k:=by rw[←hs]
  rw[e];exact h.nop rfl rfl Len.rf
 ·exact h.checks (.inl hs) 0 _ (.inl rfl)
theorem Be.stop (h:Be q m k n P H T cl cn rg pc) (hs:(wkAt m.l k).state=12∨((wkAt m.l k).state=11∧(wkAt m.l k).gWhy≠2)):Af q m k n (stopF (wkAt m.l k,m.c)):=by
 have hs':(wkAt m.l k).state=11∨(wkAt m.l k).state=12:=by omega
 have he:emp (wkAt m.l k).state=false:=by rcases hs' with e|e<;>rw[e]<;>rfl
 have h3:(wkAt m.l k).state≠3:=by omega
 have hp:=h.nf he h3;have hk:=h.ci.c16b k h.kW (by rcases hs' with e|e;exact .inr (.inr (.inl e));exact .inr (.inr (.inr (.inl e))));have hx:=h.idx hp hk.1;have hn:=h.nn;have hS:=h.sr;have hg:=h.gs (at_of (.inr hs));have hS':(aRC q m.c m.l).S < 1000000:=by show m.c.serial < _;omega
 unfold stopF pkStop ringF;dsimp only;have hh:=h.held hp;have e1:aRC q (m.c.setFr (wkAt m.l k).holds { m.c.at (wkAt m.l k).holds with due:=true }) m.l=aRC q m.c m.l:=Y0 h.g.hl fun _=>rfl;have e2:∀x,((m.c.setFr (wkAt m.l k).holds { m.c.at (wkAt m.l k).holds with due:=true }).at x).serial=(m.c.at x).serial:=fun x=>congrArg Fe.serial (congrFun (congrArg RC.fr e1) x);have hpo:=h.ho he h3;refine h.sA 13 (h.ci.park h.kW hs' hS') ?_ (QT _ _) (hPu (hP0 P) _ ?_) ((Len.rf.f _ _).trans ⟨rfl,rfl,rfl,rfl⟩) h.lim ka ko ⟨fun _ e=>(by cases e),fun t _ ht=>?_,fun _ e=>(by cases e),fun _ e=>(by cases e)⟩
 ·dsimp only;rw[Qq h.kl];have e3:aRC q { m.c.setFr (wkAt m.l k).holds { m.c.at (wkAt m.l k).holds with due:=true } with parks:=w64 ((m.c.setFr (wkAt m.l k).holds { m.c.at (wkAt m.l k).holds with due:=true }).parks+1) } m.l=aRC q m.c m.l:=e1;rw[e3];have e4:(({ m.c.setFr (wkAt m.l k).holds { m.c.at (wkAt m.l k).holds with due:=true } with parks:=w64 ((m.c.setFr (wkAt m.l k).holds { m.c.at (wkAt m.l k).holds with due:=true }).parks+1) }:Cs).at (m.c.at (wkAt m.l k).holds).parent).serial=(m.c.at (m.c.at (wkAt m.l k).holds).parent).serial:=e2 _;rw[e4,hg];exact agp
 ·show nd (P (wkAt m.l k).holds)=true;rw[hpo];rcases hs' with e|e<;>rw[e]<;>rfl
 ·cases ht
  exact ⟨rfl,h.inF hx.1⟩
theorem Be.lk (h:Be q m k n P H T cl cn rg pc) (b:Bool) {s':Cs} (e1:aRC q s' m.l=aRC q m.c m.l) (e2:aDR q s' m.l=aDR q m.c m.l) (hl:Len m.c s') (ar:ArI q.F s') (hs:(wkAt m.l k).state=10∨(wkAt m.l k).state=12):
  Be q ⟨s',m.l.set k { wkAt m.l k with gLooked:=b }⟩ k n P H T cl cn rg pc:=by
 refine h.sB (y:=({ wkAt m.l k with gLooked:=b },s')) (wkAt m.l k).state h.ci ?_ e2 (hP0 P) hl ⟨h.sr,h.sd⟩ ka ka ar (hgs:=fun _=>h.gs (at_of ka));dsimp only;rw[Qq h.kl,e1];exact agp
theorem Be.advance (h:Be q m k n P H T cl cn rg pc) (hs:(wkAt m.l k).state=9):Af q m k n (advanceF q (wkAt m.l k,m.c)):=by
 have h9:(aRC q m.c m.l).st k=9:=hs;have hp:=h.nf eI eB;have hh:=h.held hp;have hk:=h.ci.c16b k h.kW (.inl h9);have hx:=h.idx hp hk.1;have hi:=h.inF hx.1;have e1:aRC q (m.c.setW (stW m.c.ws (q.word (m.c.at (wkAt m.l k).holds).parent (m.c.at (wkAt m.l k).holds).index 0) (wkAt m.l k).gStage)) m.l=aRC q m.c m.l:=rc_ct h.g.ok h.g.ws hi _ _;have e2:aDR q (m.c.setW (stW m.c.ws (q.word (m.c.at (wkAt m.l k).holds).parent (m.c.at (wkAt m.l k).holds).index 0) (wkAt m.l k).gStage)) m.l=aDR q m.c m.l:=dr_wd h.g.ok h.g.ws hi _ ka ka _;have hL:Len m.c (m.c.setW (stW m.c.ws (q.word (m.c.at (wkAt m.l k).holds).parent (m.c.at (wkAt m.l k).holds).index 0) (wkAt m.l k).gStage)):=Len.rf.w (Qk _ _ _);have hh1:(m.c.setW (stW m.c.ws (q.word (m.c.at (wkAt m.l k).holds).parent (m.c.at (wkAt m.l k).holds).index 0) (wkAt m.l k).gStage)).isHeld (wkAt m.l k).holds=true:=hh;have hhl:(m.c.setW (stW m.c.ws (q.word (m.c.at (wkAt m.l k).holds).parent (m.c.at (wkAt m.l k).holds).index 0) (wkAt m.l k).gStage)).held.length=(m.c.setW (stW m.c.ws (q.word (m.c.at (wkAt m.l k).holds).parent (m.c.at (wkAt m.l k).holds).index 0) (wkAt m.l k).gStage)).fr.length:=h.g.hl;have ha1:E4 m.c (m.c.setW (stW m.c.ws (q.word (m.c.at (wkAt m.l k).holds).parent (m.c.at (wkAt m.l k).holds).index 0) (wkAt m.l k).gStage)):=⟨rfl,rfl,rfl,rfl⟩;unfold advanceF noteF;dsimp only;generalize m.c.setW (stW m.c.ws (q.word (m.c.at (wkAt m.l k).holds).parent (m.c.at (wkAt m.l k).holds).index 0) (wkAt m.l k).gStage)=s1 at e1 e2 hL hh1 hhl ha1 ⊢;generalize hev:(⟨if (wkAt m.l k).gWaits=true then 3 else 6,_,_,_⟩:Vt)=ev;have e0:aRC q (s1.setFr (wkAt m.l k).holds { m.c.at (wkAt m.l k).holds with stage:=(wkAt m.l k).gStage }) m.l={ aRC q m.c m.l with fr:=updI (aRC q m.c m.l).fr (wkAt m.l k).holds { (aRC q m.c m.l).fr (wkAt m.l k).holds with stage:=(wkAt m.l k).gStage } }:=by rw[X42 hhl hh1,e1];rfl
 have eF:∀x,feOf ((s1.setFr (wkAt m.l k).holds { m.c.at (wkAt m.l k).holds with stage:=(wkAt m.l k).gStage }).at x)=updI (aRC q m.c m.l).fr (wkAt m.l k).holds { (aRC q m.c m.l).fr (wkAt m.l k).holds with stage:=(wkAt m.l k).gStage } x:=fun x=>congrFun (congrArg RC.fr e0) x;have hev1:ev.kind=3∨ev.kind=6:=by rw[←hev];dsimp only;split<;>simp
 have b1:((s1.setFr (wkAt m.l k).holds { m.c.at (wkAt m.l k).holds with stage:=(wkAt m.l k).gStage }).at (wkAt m.l k).holds).parent=(m.c.at (wkAt m.l k).holds).parent:=by have:=congrArg Fe.parent (eF (wkAt m.l k).holds);unfold updI at this;rw[if_pos rfl] at this;exact this
 have b2:((s1.setFr (wkAt m.l k).holds { m.c.at (wkAt m.l k).holds with stage:=(wkAt m.l k).gStage }).at (wkAt m.l k).holds).index=(m.c.at (wkAt m.l k).holds).index:=by have:=congrArg Fe.index (eF (wkAt m.l k).holds);unfold updI at this;rw[if_pos rfl] at this;exact this
 have hev2:ev.loop=((aRC q m.c m.l).fr ((aRC q m.c m.l).fr ((aRC q m.c m.l).ho k)).parent).serial:=by
  rw[←hev];have a1:=congrArg Fe.serial (eF (m.c.at (wkAt m.l k).holds).parent);unfold updI at a1;refine Eq.trans (congrArg (fun p=>((s1.setFr (wkAt m.l k).holds { m.c.at (wkAt m.l k).holds with stage:=(wkAt m.l k).gStage }).at p).serial) b1) (a1.trans ?_);split
  ·rename_i c;show (m.c.at (wkAt m.l k).holds).serial=(m.c.at (m.c.at (wkAt m.l k).holds).parent).serial;rw[c]
  ·rfl
 have hev3:ev.iter=((aRC q m.c m.l).fr ((aRC q m.c m.l).ho k)).index:=by rw[←hev];exact b2
 clear hev;have e3:aRC q ((s1.setFr (wkAt m.l k).holds { m.c.at (wkAt m.l k).holds with stage:=(wkAt m.l k).gStage }).note ev) m.l={ aRC q m.c m.l with fr:=updI (aRC q m.c m.l).fr (wkAt m.l k).holds { (aRC q m.c m.l).fr (wkAt m.l k).holds with stage:=(wkAt m.l k).gStage },pas:=updB (aRC q m.c m.l).pas ((aRC q m.c m.l).fr ((aRC q m.c m.l).fr ((aRC q m.c m.l).ho k)).parent).serial ((aRC q m.c m.l).fr ((aRC q m.c m.l).ho k)).index }:=by rw[rc_noteP _ _ _ hev1 hev2 hev3,e0]
 have hL2:=(hL.f (wkAt m.l k).holds { m.c.at (wkAt m.l k).holds with stage:=(wkAt m.l k).gStage }).n ev;have e4:aDR q ((s1.setFr (wkAt m.l k).holds { m.c.at (wkAt m.l k).holds with stage:=(wkAt m.l k).gStage }).note ev) m.l=aDR q m.c m.l:=(QT _ _).trans e2;have hst:∀x,x≠(wkAt m.l k).holds→(updI (aRC q m.c m.l).fr (wkAt m.l k).holds { (aRC q m.c m.l).fr (wkAt m.l k).holds with stage:=(wkAt m.l k).gStage } x).stage=((aRC q m.c m.l).fr x).stage:=fun x hx=>by unfold updI;rw[if_neg hx]
 have hsl:(updI (aRC q m.c m.l).fr (wkAt m.l k).holds { (aRC q m.c m.l).fr (wkAt m.l k).holds with stage:=(wkAt m.l k).gStage } (wkAt m.l k).holds).stage=(wkAt m.l k).gStage:=by unfold updI;rw[if_pos rfl]
 split
 ·rename_i c;refine h.sU (id:=(m.c.at (wkAt m.l k).holds).parent) (h.ci.adv0 h.kW h9 c) ?_ e4 (hPu (hP0 P) _ ?_) hL2 ⟨h.lim.1,by dsimp only;exact limU h.lim.2 _ (by exact h.lim.2 _)⟩ eB rfl (hst:=fun x hx _=>hst x hx) (hgs:=fun _=>hsl.symm)
  ·dsimp only[Wk.pushes];rw[Qq h.kl,e3];exact agp
  ·have a:=(h.ci.f9 _ hp hk.1 c (by have e:=h.ho eI eB;rw[hs] at e;show isMk (P (wkAt m.l k).holds)=false;rw[e];rfl)).1;show nd (P (m.c.at (wkAt m.l k).holds).parent)=true;have a':P (m.c.at (wkAt m.l k).holds).parent=_:=a;rw[a'];rfl
 ·rename_i c;have har:ArI q.F ((s1.setFr (wkAt m.l k).holds { m.c.at (wkAt m.l k).holds with stage:=(wkAt m.l k).gStage }).note ev):=by refine (E4.a ?_).1 q.F h.g.ar;obtain ⟨a1,a2,a3,a4⟩:=XR s1 (wkAt m.l k).holds { m.c.at (wkAt m.l k).holds with stage:=(wkAt m.l k).gStage };exact ⟨a1.trans ha1.1,a2.trans ha1.2.1,a3.trans ha1.2.2.1,a4.trans ha1.2.2.2⟩
  have hB:=h.sB (y:=({ wkAt m.l k with state:=10 },(s1.setFr (wkAt m.l k).holds { m.c.at (wkAt m.l k).holds with stage:=(wkAt m.l k).gStage }).note ev)) 10 (h.ci.adv1 h.kW h9 c) (by dsimp only;rw[Qq h.kl,e3];exact agp) e4 (hP0 P) hL2 ⟨h.sr,by dsimp only;exact limU h.sd _ (by exact h.sd _)⟩ eB (.inl rfl) har (hst:=fun x hx _=>hst x hx) (hgs:=fun _=>hsl.symm);have:=hB.looksOn (by rw[h.at_]);refine h.on ?_ (y:=({ wkAt m.l k with state:=10 },(s1.setFr (wkAt m.l k).holds { m.c.at (wkAt m.l k).holds with stage:=(wkAt m.l k).gStage }).note ev));rw[h.at_ (y:=({ wkAt m.l k with state:=10 },(s1.setFr (wkAt m.l k).holds { m.c.at (wkAt m.l k).holds with stage:=(wkAt m.l k).gStage }).note ev))] at this;exact this
theorem Be.peek (h:Be q m k n P H T cl cn rg pc) (hs:(wkAt m.l k).state=10):Af q m k n (peekF q (wkAt m.l k,m.c)):=by
 unfold peekF;dsimp only;split
 ·exact h.checks (.inl hs) 0 _ (.inl rfl)
 ·have hB:=h.lk false rfl rfl Len.rf h.g.ar (.inl hs);have:=hB.decide (by rw[h.at_ (y:=({ wkAt m.l k with gLooked:=false },m.c))];exact .inl hs);refine h.on ?_ (y:=({ wkAt m.l k with gLooked:=false },m.c));rw[h.at_ (y:=({ wkAt m.l k with gLooked:=false },m.c))] at this;exact this
theorem Be.look (h:Be q m k n P H T cl cn rg pc) (hs:(wkAt m.l k).state=12):Af q m k n (lookF q (wkAt m.l k,m.c)):=by
 unfold lookF;dsimp only;have e1:∀v,aRC q (m.c.setFr (wkAt m.l k).holds { m.c.at (wkAt m.l k).holds with fold:=v }) m.l=aRC q m.c m.l:=fun v=>Y0 h.g.hl fun _=>rfl;generalize ldW m.c.ws (q.word (m.c.at (wkAt m.l k).holds).parent (w64 ((m.c.at (wkAt m.l k).holds).index - 1)) 0)=v;have har:ArI q.F (m.c.setFr (wkAt m.l k).holds { m.c.at (wkAt m.l k).holds with fold:=v }):=(E4.a (XR ..)).1 q.F h.g.ar;split
 ·exact h.due (.inr (.inl hs)) (Len.rf.f _ _) (e1 v) (QT _ _) (len_setFr h.g.hl _ _)
 split
 ·have hB:=h.lk true (e1 v) (QT _ _) (Len.rf.f _ _) har (.inr hs);have:=hB.checks (by rw[h.at_ (y:=({ wkAt m.l k with gLooked:=true },m.c))];exact .inr hs) 1 (wkAt m.l k).gStage (.inr rfl);refine h.on ?_ (y:=({ wkAt m.l k with gLooked:=true },m.c.setFr (wkAt m.l k).holds { m.c.at (wkAt m.l k).holds with fold:=v }));rw[h.at_ (y:=({ wkAt m.l k with gLooked:=true },m.c))] at this;exact this
 ·exact (h.c (e1 v) (QT _ _) (Len.rf.f _ _) har).stop (.inl hs)
end
variable {T:Int} {F W:Nat} {sI:Int→Int} {tk:Int→Int→Int→Int} {r:RC} {P:Int→Pc} {cn:Int→Int} {rg:Nat→Int} {pc:Int→Int→Int}
set_option maxHeartbeats 40000000 in
theorem CN.chkPush (h:CN T F W sI tk r P cn rg pc) {k:Nat} (hk:(k:Int) < (W:Int)) (h1:r.st k=11) (hn:(r.rt k).next=2) (hy:r.gy k≠2) (t:Th) (ht0:wk2 t=true):
  CN T F W sI tk { r with st:=upd r.st k (3),px:=upd r.px k (rg k),th:=upd r.th k (t) } (updI P (rg k) (.own k .psh)) cn rg pc:=by
 have p1:=h.c11b k hk h1 hn;have p2:=h.c16b k hk;have p3:=h.c3 k hk;exact {}
set_option maxHeartbeats 40000000 in
theorem CN.chkEnd (h:CN T F W sI tk r P cn rg pc) {k:Nat} (hk:(k:Int) < (W:Int)) (h1:r.st k=11) (hy:r.gy k=2) (b:Bool) (hb:b=true→(r.rt k).next=2):
  CN T F W sI tk { r with st:=upd r.st k (15),eR:=upd r.eR k (if b=true then rg k else 0),wa:=upd r.wa k (⟨⟨(r.fr (r.ho k)).parent,(r.fr (r.fr (r.ho k)).parent).serial⟩,(r.fr (r.ho k)).index,0,false,false,!r.eH k⟩) } P cn rg pc:=by
 have p1:=h.c11b k hk h1;have p2:=h.c16b k hk;exact {}
set_option maxHeartbeats 40000000 in
theorem CN.pushEnd (h:CN T F W sI tk r P cn rg pc) {k:Nat} (hk:(k:Int) < (W:Int)) (h1:r.st k=3) (ht0:wk2 (r.th k)=true) (s:Int) (h2:s=10∨s=12∨s=4) {j:Nat} {n:Int}:
  CN T F W sI tk { r with st:=upd r.st k (s) } (updI P (r.px k) (.deq j n)) cn rg pc:=by
 have p1:=h.c10c k hk h1 ht0;have p0:P (r.ho k)=.own k .hold:=by rw[h.c1 k hk p1.1,h1];simp[ht]
 exact {}
set_option maxHeartbeats 40000000 in
theorem CN.pushTakes (h:CN T F W sI tk r P cn rg pc) {k:Nat} (hk:(k:Int) < (W:Int)) (h1:r.st k=3) {id:Int} (ht0:r.th k=.takes id) (hkd:(r.fr id).kind≠3) {j:Nat} {n:Int}:
  CN T F W sI tk { r with st:=upd r.st k (4),ho:=upd r.ho k (id) } (updI (updI P (r.px k) (.deq j n)) id (.own k .hold)) cn rg pc:=by
 obtain ⟨q1,q2,q3,q4,q5⟩:=h.c10b k hk h1 id ht0;exact {}
set_option maxHeartbeats 40000000 in
theorem CN.wake0 (h:CN T F W sI tk r P cn rg pc) {k:Nat} (hk:(k:Int) < (W:Int)) (h1:r.st k=15) (hn:(r.wa k).at_=0) (v:Tw) (hS:r.S < 1000000) (hv:v.r=(r.wa k).r∧v.it=(r.wa k).it∧v.at_=1) (hI:∀i,0≤i→i < 1000000→tk (r.wa k).r.serial i 0=tk (r.wa k).r.serial (r.wa k).it 0→i=(r.wa k).it):
  CN T F W sI tk { r with wa:=upd r.wa k (v),dn:=upd2 r.dn (r.wa k).r.id (sI (r.wa k).it) (tk (r.wa k).r.serial (r.wa k).it 0) } (updI P (r.ho k) (.own k .lt)) cn rg pc:=by
 have e0:r.ho k≠0:=h.c3 k hk eE eE;have p0:P (r.ho k)=.own k .hold:=by rw[h.c1 k hk e0,h1];simp[ht,hn]
 have p1:=h.c16b k hk;have p2:=h.c14 k hk h1;have p3:=h.f2 (r.ho k);have g1:=h.hv.v1 k hk (.inr (.inl h1));have e0':P (r.ho k)≠.free:=by rw[p0];exact fun e=>by cases e
 have p4:=p3 e0' (p1 ka).1;have p5:=(h.f3 _ p4.1 p4.2.1).2.2.1;have p6:=(h.f5 _ p4.1).2.2
 exact {
  hv:={ v2:=by
       intro l j s i s1 s2 i1 i2 e;by_cases c:l=(r.wa k).r.id∧j=sI (r.wa k).it
       ·have e':tk (r.wa k).r.serial (r.wa k).it 0=tk s i 0:=by rw[←e];exact (if_pos c).symm
        rw[p2.2.1,p2.2.2.1] at e';obtain ⟨x1,x2⟩:=h.hv.vt.2 _ _ _ _ ka ka ka ka s1 s2 i1 i2 e';rw[←x1,←x2];exact g1
       ·exact h.hv.v2 l j s i s1 s2 i1 i2 (Eq.trans (if_neg c).symm e) }
  w3:=by (try dsimp only);have a0:=h.w3;have a1:=h.f7;grind (splits:=40)
  w3b:=by (try dsimp only);have a0:=h.w3b;have a1:=h.f2;have a2:=h.f5;have a3:=h.f6;grind (splits:=40)}
set_option maxHeartbeats 40000000 in
theorem CN.wake1 (h:CN T F W sI tk r P cn rg pc) {k:Nat} (hk:(k:Int) < (W:Int)) (h1:r.st k=15) (hn:(r.wa k).at_=1) (v:Tw) (hv:v.r=(r.wa k).r∧v.it=(r.wa k).it∧v.at_=2):
  CN T F W sI tk { r with wa:=upd r.wa k (v) } P cn rg pc:=by
 have p2:=h.c14 k hk h1;exact {}
set_option maxHeartbeats 40000000 in
theorem CN.wakeEnd (h:CN T F W sI tk r P cn rg pc) {k:Nat} (hk:(k:Int) < (W:Int)) (h1:r.st k=15) (hn:1≤(r.wa k).at_):
  CN T F W sI tk { r with st:=upd r.st k (16),eW:=upd r.eW k (false) } P cn rg pc:=by
 have e0:r.ho k≠0:=h.c3 k hk eE eE;have p0:P (r.ho k)=.own k .lt:=by rw[h.c1 k hk e0,h1];simp[ht,hn]
 have p1:=h.c16b k hk;exact {}
set_option maxHeartbeats 40000000 in
theorem CN.wakeGot (h:CN T F W sI tk r P cn rg pc) {k:Nat} (hk:(k:Int) < (W:Int)) (h1:r.st k=15) (hn:1≤(r.wa k).at_) (hp:P (r.fr (r.ho k)).parent=.nap):
  CN T F W sI tk { r with st:=upd r.st k (16),eW:=upd r.eW k (true),nap:=updI r.nap (r.fr (r.ho k)).parent 0 } (updI P (r.fr (r.ho k)).parent (.own k .wok)) cn rg pc:=by
 have e0:r.ho k≠0:=h.c3 k hk eE eE;have p0:P (r.ho k)=.own k .lt:=by rw[h.c1 k hk e0,h1];simp[ht,hn]
 have p1:=h.c16b k hk;have p2:=h.g2 _ hp;have p3:=h.f0b (r.fr (r.ho k)).parent;exact {}
set_option maxHeartbeats 40000000 in
theorem CN.dropFin (h:CN T F W sI tk r P cn rg pc) {k:Nat} (hk:(k:Int) < (W:Int)) (h1:r.st k=16) {l:Int} (hc1:1≤cn l) (hl:(r.fr (r.ho k)).parent=l) (hz:(∀c,P c≠.free→(r.fr c).kind≠3→(r.fr c).parent≠r.ho k)∧∀j:Nat,(j:Int) < W→r.st j=7→r.ot j≠r.ho k) (hp:P l=.below (r.ho k)) (hx:(r.fr (r.ho k)).index=(r.fr l).started - 1):
  CN T F W sI tk { r with us:=updI r.us (r.ho k) false,J:=updI r.J l (r.J l - 1),st:=upd r.st k (17),ho:=upd r.ho k (0),ot:=upd r.ot k (l) } (updI (updI P (r.ho k) (.free)) l (.own k .oth)) (updI cn l (cn l - 1)) rg pc:=by
 have e0:r.ho k≠0:=h.c3 k hk eE eE;have p0:P (r.ho k)=.own k .lt:=by rw[h.c1 k hk e0,h1];simp[ht]
 have p1:=h.c16b k hk;have p2:=h.f2 (r.ho k);have p3:=h.h1 (r.ho k);have p4:=h.h2 l;have p5:=h.f0b l;rw[hl] at p2;have g1:=h.hv.v0 _ _ (h.hv.v1 k hk (.inr (.inr h1)));rw[hl,hx] at g1
 exact {
  hv:={ v9:=by
       have a0:=h.hv.v9;intro x x1 x2 x3 x4;by_cases c:x=l
       ·subst c;exact .inr g1
       ·clear hz g1 p1 p2 p3 p4;(try dsimp only at x1 x2 x3 x4 ⊢);grind (splits:=40) }
  c9:=by (try dsimp only);have a0:=h.c9;grind (splits:=40)
  f4:=by (try dsimp only);have a0:=h.f4;grind (splits:=40)
  ni:=by have z0:=h.c1 k hk;have z1:=h.c3 k hk;refine h.ni.id1 (a:=(r.ho k)) (h.ni.b _ (by grind)) (fun i hi=>by (clear hz;grind (splits:=40))) (fun j=>by (clear hz;grind (splits:=40))) (fun i=>by (clear hz;have a0:=h.f0b;have a1:=h.ni.b;grind (splits:=40))) (fun p hp=>by (clear hz;grind (splits:=40)))}
set_option maxHeartbeats 40000000 in
theorem CN.dropHeld (h:CN T F W sI tk r P cn rg pc) {k:Nat} (hk:(k:Int) < (W:Int)) (h1:r.st k=16) {l:Int} (hc1:1≤cn l) (hl:(r.fr (r.ho k)).parent=l) (hz:(∀c,P c≠.free→(r.fr c).kind≠3→(r.fr c).parent≠r.ho k)∧∀j:Nat,(j:Int) < W→r.st j=7→r.ot j≠r.ho k) (hp:P l=.below (r.ho k)) (hx:(r.fr (r.ho k)).index=(r.fr l).started - 1):
  CN T F W sI tk { r with us:=updI r.us (r.ho k) false,J:=updI r.J l (r.J l - 1),st:=upd r.st k (19),ho:=upd r.ho k (l) } (updI (updI P (r.ho k) (.free)) l (.own k .hold)) (updI cn l (cn l - 1)) rg pc:=by
 have e0:r.ho k≠0:=h.c3 k hk eE eE;have p0:P (r.ho k)=.own k .lt:=by rw[h.c1 k hk e0,h1];simp[ht]
 have p1:=h.c16b k hk;have p2:=h.f2 (r.ho k);have p3:=h.h1 (r.ho k);have p4:=h.h2 l;have p5:=h.f0b l;rw[hl] at p2;have g1:=h.hv.v0 _ _ (h.hv.v1 k hk (.inr (.inr h1)));rw[hl,hx] at g1
 exact {
  hv:={ v9:=by
       have a0:=h.hv.v9;intro x x1 x2 x3 x4;by_cases c:x=l
       ·subst c;exact .inr g1
       ·clear hz g1 p1 p2 p3 p4;(try dsimp only at x1 x2 x3 x4 ⊢);grind (splits:=40) }
  c9:=by (try dsimp only);have a0:=h.c9;grind (splits:=40)
  f4:=by (try dsimp only);have a0:=h.f4;grind (splits:=40)
  ni:=by have z0:=h.c1 k hk;have z1:=h.c3 k hk;refine h.ni.id1 (a:=(r.ho k)) (h.ni.b _ (by grind)) (fun i hi=>by (clear hz;grind (splits:=40))) (fun j=>by (clear hz;grind (splits:=40))) (fun i=>by (clear hz;have a0:=h.f0b;have a1:=h.ni.b;grind (splits:=40))) (fun p hp=>by (clear hz;grind (splits:=40)))}
set_option maxHeartbeats 40000000 in
theorem CN.dropLast (h:CN T F W sI tk r P cn rg pc) {k:Nat} (hk:(k:Int) < (W:Int)) (h1:r.st k=16) {l:Int} (hc1:1≤cn l) (hl:(r.fr (r.ho k)).parent=l) (hz:(∀c,P c≠.free→(r.fr c).kind≠3→(r.fr c).parent≠r.ho k)∧∀j:Nat,(j:Int) < W→r.st j=7→r.ot j≠r.ho k) (hp:P l=.fin) (hc:cn l=1):
  CN T F W sI tk { r with us:=updI r.us (r.ho k) false,J:=updI r.J l (r.J l - 1),st:=upd r.st k (18),ho:=upd r.ho k (l) } (updI (updI P (r.ho k) (.free)) l (.own k .jn)) (updI cn l (cn l - 1)) rg pc:=by
 have e0:r.ho k≠0:=h.c3 k hk eE eE;have p0:P (r.ho k)=.own k .lt:=by rw[h.c1 k hk e0,h1];simp[ht]
 have p1:=h.c16b k hk;have p2:=h.f2 (r.ho k);have p3:=h.h1 (r.ho k);have p4:=h.h2 l;have p5:=h.f0b l;rw[hl] at p2
 exact {
  c9:=by (try dsimp only);have a0:=h.c9;grind (splits:=40)
  f4:=by (try dsimp only);have a0:=h.f4;grind (splits:=40)
  ni:=by have z0:=h.c1 k hk;have z1:=h.c3 k hk;refine h.ni.id1 (a:=(r.ho k)) (h.ni.b _ (by grind)) (fun i hi=>by (clear hz;grind (splits:=40))) (fun j=>by (clear hz;grind (splits:=40))) (fun i=>by (clear hz;have a0:=h.f0b;have a1:=h.ni.b;grind (splits:=40))) (fun p hp=>by (clear hz;grind (splits:=40)))}
set_option maxHeartbeats 40000000 in
theorem CN.dropBoth (h:CN T F W sI tk r P cn rg pc) {k:Nat} (hk:(k:Int) < (W:Int)) (h1:r.st k=16) {l:Int} (hc1:1≤cn l) (hl:(r.fr (r.ho k)).parent=l) (hz:(∀c,P c≠.free→(r.fr c).kind≠3→(r.fr c).parent≠r.ho k)∧∀j:Nat,(j:Int) < W→r.st j=7→r.ot j≠r.ho k) (hw:r.eW k=true) (he:r.eR k≠0):
  CN T F W sI tk { r with us:=updI r.us (r.ho k) false,J:=updI r.J l (r.J l - 1),st:=upd r.st k (3),ho:=upd r.ho k (0),px:=upd r.px k (l),th:=upd r.th k (.takes (r.eR k)) } (updI (updI (updI P (r.ho k) (.free)) l (.own k .psh)) (r.eR k) (.own k .oth)) (updI cn l (cn l - 1)) rg pc:=by
 have e0:r.ho k≠0:=h.c3 k hk eE eE;have p0:P (r.ho k)=.own k .lt:=by rw[h.c1 k hk e0,h1];simp[ht]
 have p1:=h.c16b k hk;have p2:=h.f2 (r.ho k);have p3:=h.h1 (r.ho k);have p4:=h.h2 l;have p5:=h.f0b l;rw[hl] at p2;have p6:=h.c13 k hk h1 hw;have p7:=h.c12 k hk (.inr h1);rw[hl] at p6
 exact {
  c9:=by (try dsimp only);have a0:=h.c9;grind (splits:=40)
  f4:=by (try dsimp only);have a0:=h.f4;grind (splits:=40)
  ni:=by have z0:=h.c1 k hk;have z1:=h.c3 k hk;refine h.ni.id1 (a:=(r.ho k)) (h.ni.b _ (by grind)) (fun i hi=>by (clear hz;grind (splits:=40))) (fun j=>by (clear hz;grind (splits:=40))) (fun i=>by (clear hz;have a0:=h.f0b;have a1:=h.ni.b;grind (splits:=40))) (fun p hp=>by (clear hz;grind (splits:=40)))}
set_option maxHeartbeats 40000000 in
theorem CN.dropRight (h:CN T F W sI tk r P cn rg pc) {k:Nat} (hk:(k:Int) < (W:Int)) (h1:r.st k=16) {l:Int} (hc1:1≤cn l) (hl:(r.fr (r.ho k)).parent=l) (hz:(∀c,P c≠.free→(r.fr c).kind≠3→(r.fr c).parent≠r.ho k)∧∀j:Nat,(j:Int) < W→r.st j=7→r.ot j≠r.ho k) (he:r.eR k≠0):
  CN T F W sI tk { r with us:=updI r.us (r.ho k) false,J:=updI r.J l (r.J l - 1),st:=upd r.st k (4),ho:=upd r.ho k (r.eR k) } (updI (updI P (r.ho k) (.free)) (r.eR k) (.own k .hold)) (updI cn l (cn l - 1)) rg pc:=by
 have e0:r.ho k≠0:=h.c3 k hk eE eE;have p0:P (r.ho k)=.own k .lt:=by rw[h.c1 k hk e0,h1];simp[ht]
 have p1:=h.c16b k hk;have p2:=h.f2 (r.ho k);have p3:=h.h1 (r.ho k);have p4:=h.h2 l;have p5:=h.f0b l;rw[hl] at p2;have p7:=h.c12 k hk (.inr h1)
 exact {
  c9:=by (try dsimp only);have a0:=h.c9;grind (splits:=40)
  f4:=by (try dsimp only);have a0:=h.f4;grind (splits:=40)
  ni:=by have z0:=h.c1 k hk;have z1:=h.c3 k hk;refine h.ni.id1 (a:=(r.ho k)) (h.ni.b _ (by grind)) (fun i hi=>by (clear hz;grind (splits:=40))) (fun j=>by (clear hz;grind (splits:=40))) (fun i=>by (clear hz;have a0:=h.f0b;have a1:=h.ni.b;grind (splits:=40))) (fun p hp=>by (clear hz;grind (splits:=40)))}
set_option maxHeartbeats 40000000 in
theorem CN.dropLoop (h:CN T F W sI tk r P cn rg pc) {k:Nat} (hk:(k:Int) < (W:Int)) (h1:r.st k=16) {l:Int} (hc1:1≤cn l) (hl:(r.fr (r.ho k)).parent=l) (hz:(∀c,P c≠.free→(r.fr c).kind≠3→(r.fr c).parent≠r.ho k)∧∀j:Nat,(j:Int) < W→r.st j=7→r.ot j≠r.ho k) (hw:r.eW k=true):
  CN T F W sI tk { r with us:=updI r.us (r.ho k) false,J:=updI r.J l (r.J l - 1),st:=upd r.st k (19),ho:=upd r.ho k (l) } (updI (updI P (r.ho k) (.free)) l (.own k .hold)) (updI cn l (cn l - 1)) rg pc:=by
 have e0:r.ho k≠0:=h.c3 k hk eE eE;have p0:P (r.ho k)=.own k .lt:=by rw[h.c1 k hk e0,h1];simp[ht]
 have p1:=h.c16b k hk;have p2:=h.f2 (r.ho k);have p3:=h.h1 (r.ho k);have p4:=h.h2 l;have p5:=h.f0b l;rw[hl] at p2;have p6:=h.c13 k hk h1 hw;rw[hl] at p6
 exact {
  c9:=by (try dsimp only);have a0:=h.c9;grind (splits:=40)
  f4:=by (try dsimp only);have a0:=h.f4;grind (splits:=40)
  ni:=by have z0:=h.c1 k hk;have z1:=h.c3 k hk;refine h.ni.id1 (a:=(r.ho k)) (h.ni.b _ (by grind)) (fun i hi=>by (clear hz;grind (splits:=40))) (fun j=>by (clear hz;grind (splits:=40))) (fun i=>by (clear hz;have a0:=h.f0b;have a1:=h.ni.b;grind (splits:=40))) (fun p hp=>by (clear hz;grind (splits:=40)))}
set_option maxHeartbeats 40000000 in
theorem CN.dropGo (h:CN T F W sI tk r P cn rg pc) {k:Nat} (hk:(k:Int) < (W:Int)) (h1:r.st k=16) {l:Int} (hc1:1≤cn l) (hl:(r.fr (r.ho k)).parent=l) (hz:(∀c,P c≠.free→(r.fr c).kind≠3→(r.fr c).parent≠r.ho k)∧∀j:Nat,(j:Int) < W→r.st j=7→r.ot j≠r.ho k):
  CN T F W sI tk { r with us:=updI r.us (r.ho k) false,J:=updI r.J l (r.J l - 1),st:=upd r.st k (2),ho:=upd r.ho k (0) } (updI P (r.ho k) (.free)) (updI cn l (cn l - 1)) rg pc:=by
 have e0:r.ho k≠0:=h.c3 k hk eE eE;have p0:P (r.ho k)=.own k .lt:=by rw[h.c1 k hk e0,h1];simp[ht]
 have p1:=h.c16b k hk;have p2:=h.f2 (r.ho k);have p3:=h.h1 (r.ho k);have p4:=h.h2 l;have p5:=h.f0b l;rw[hl] at p2
 exact {
  c9:=by (try dsimp only);have a0:=h.c9;grind (splits:=40)
  f4:=by (try dsimp only);have a0:=h.f4;grind (splits:=40)
  ni:=by have z0:=h.c1 k hk;have z1:=h.c3 k hk;refine h.ni.id1 (a:=(r.ho k)) (h.ni.b _ (by grind)) (fun i hi=>by (clear hz;grind (splits:=40))) (fun j=>by (clear hz;grind (splits:=40))) (fun i=>by (clear hz;have a0:=h.f0b;have a1:=h.ni.b;grind (splits:=40))) (fun p hp=>by (clear hz;grind (splits:=40)))}
end Go.Proofs.YtelibaobkcokdaaGreat.Mx.In
